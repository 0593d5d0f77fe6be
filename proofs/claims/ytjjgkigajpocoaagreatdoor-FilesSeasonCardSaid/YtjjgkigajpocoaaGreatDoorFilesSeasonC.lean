/- Part 3 of the proof of FilesSeason: shallow programs of Go functions, and what they compute. No condition. -/
import Derived.Test.YtjjgkigajpocoaaGreatDoorFilesSeasonB
import Derived.Lib.ConvBytes
noncomputable section
set_option linter.unusedVariables false
set_option linter.unusedSimpArgs false
namespace Go.Fer
open Go.RowKit
universe u
variable {bet:Type}
def dZ:M bet:=⟨False,λ_=>False⟩
inductive cc where
 | undef
 | val (t:V)
 | eL (t:V)
 | eY (b off:Nat)
 | own (b:Nat)
 | sub (b:Nat)
 | hk (b:Nat)
 | l2 (b:Nat)
 | dW
 | ji (k:FuncId) (hF:z9')
 | aR (aI:V)
 | il
 | fG (dz:List Nat)
 | kQ (b:Nat)
 | hP (b:Nat)
 deriving DecidableEq
inductive b' where
 | cells (t:V) (l:List cc)
 | bl (e:V)
 | jz (e:V)
 | mp (k v:V)
 | k5 (k v:V)
 | gx (t:V)
 | im (t:V)
 | cE (k v:V)
 | h7 (e:V) (t:cc)
 | bQ (e:V)
def cc.cons(t:cc)(R:Type):Type:=
 match t with
 | .val t=>t.al×R
 | .eL t=>t.al×R
 | .sub _=>(z24')×R
 | .aR aI=>(Nat×(List aI.al->Prop)×List aI.al×Bool)×R
 | .il=>Nat×R
 | .kQ _=>Nat×R
 | _=>R
def sO:List cc->Type->Type
 | [],R=>R
 | t::l,R=>t.cons (sO l R)
def b'.cons(t:b')(R:Type):Type:=
 match t with
 | .cells _ l=>sO l R
 | .bl e=>List e.al×R
 | .jz e=>List e.al×R
 | .mp k v=>List (k.al×v.al)×R
 | .k5 k v=>List (k.al×v.al)×R
 | .gx t=>t.al×R
 | .im t=>t.al×R
 | .cE k v=>(Option (k.al×v.al)×List (k.al×v.al))×R
 | .h7 e t=>(List e.al×Nat)×t.cons R
 | .bQ e=>List (Nat×List e.al)×R
def b'.l3:b'->Bool
 | .bQ _=>true
 | _=>false
def b'.GB:b'->Bool
 | .cells _ _ | .bl _ | .mp _ _ | .gx _ | .cE _ _ | .h7 _ _=>true
 | _=>false
def b'.KI(t u:b'):Bool:=
 match t,u with
 | .cells _ _,.cells _ _ | .cells _ _,.gx _ | .gx _,.cells _ _ | .gx _,.gx _ | .im _,.cells _ _ | .im _,.gx _=>true
 | .mp _ _,.mp _ _ | .k5 _ _,.mp _ _=>true
 | .bl e,.bl aY=>decide (e=aY)
 | .jz _,.bl _=>true
 | _,_=>false
structure eE where
 bX:List (Nat×cc)
 bC:List (Nat×b')
def pv:List (Nat×b')->Type
 | []=>Unit
 | p::l=>p.2.cons (pv l)
def qX:List (Nat×cc)->Type->Type
 | [],R=>R
 | p::l,R=>p.2.cons (qX l R)
def eE.al(sh:eE):Type:=qX sh.bX (pv sh.bC)
def yA(g:Nat->z24')(hF:z9'):Nat->aL:=hX (hF.map λp=>.eY (g p.1).1 (g p.1).2 p.2)
def yB(g:Nat->z24')(dz:List Nat):Nat->aL:=hX (dz.map λb=>.own (g b).1 (g b).2)
variable {R:Type}
def cc.av(g:Nat->z24')(t:cc)(x:t.cons R):aL×R:=
 match t,x with
 | .undef,x=>(.undef,x)
 | .val t,x=>(.val t x.1,x.2)
 | .eL t,x=>(.eL t x.1,x.2)
 | .eY b off,x=>(.eY (g b).1 (g b).2 off,x)
 | .own b,x=>(.own (g b).1 (g b).2,x)
 | .sub b,x=>(.sub (g b).1 (g b).2 x.1.1 x.1.2,x.2)
 | .hk b,x=>(.hk (g b).1 (g b).2,x)
 | .l2 b,x=>(.l2 (g b).1 (g b).2,x)
 | .dW,x=>(.dW,x)
 | .ji k hF,x=>(.ji k hF.length (yA g hF),x)
 | .aR aI,x=>(.aR x.1.1 aI x.1.2.1 x.1.2.2.1 x.1.2.2.2,x.2)
 | .il,x=>(.il x.1,x.2)
 | .fG dz,x=>(.agg dz.length (yB g dz),x)
 | .kQ b,x=>(.kQ (g b).1 (g b).2 x.1,x.2)
 | .hP b,x=>(.hP (g b).1 (g b).2,x)
def rG(g:Nat->z24'):(l:List cc)->{R:Type}->sO l R->List aL×R
 | [],_,x=>([],x)
 | t::l,_,x=>let (a,y):=t.av g x;let (as,z):=rG g l y;(a::as,z)
def b'.body(g:Nat->z24')(t:b')(x:t.cons R):b8×R:=
 match t,x with
 | .cells t l,x=>let (as,y):=rG g l x;(.cells t (hX as),y)
 | .bl e,x=>(.bl e x.1,x.2)
 | .jz e,x=>(.jz e x.1,x.2)
 | .mp k v,x=>(.mp k v x.1,x.2)
 | .k5 k v,x=>(.k5 k v x.1,x.2)
 | .gx t,x=>(.cells t (hX (p4 t x.1)),x.2)
 | .im t,x=>(.im t x.1,x.2)
 | .cE k v,x=>(.cE k v x.1.1 x.1.2,x.2)
 | .h7 e t,x=>let (a,y):=t.av g x.2;(.h7 e x.1.1 x.1.2 a,y)
 | .bQ e,x=>(.bQ e x.1,x.2)
def eU(g:Nat->z24'):(l:List (Nat×cc))->{R:Type}->qX l R->List (Nat×aL)×R
 | [],_,x=>([],x)
 | p::l,_,x=>let (a,y):=p.2.av g x;let (as,z):=eU g l y;((p.1,a)::as,z)
def gY(g:Nat->z24'):(l:List (Nat×b'))->pv l->List (Nat×b8)
 | [],_=>[]
 | p::l,x=>let (a,y):=p.2.body g x;(p.1,a)::gY g l y
def fi:List (Nat×aL)->Nat->aL
 | [],_=>.undef
 | p::l,i=>if i=p.1 then p.2 else fi l i
def eQ:List (Nat×b8)->Nat->b7
 | [],_=>⟨0,.ey⟩
 | p::l,i=>if i=p.1 then ⟨0,p.2⟩ else eQ l i
def ZF(apn:List (Nat×aL))(dz:List (Nat×b8)):aC:=⟨fi apn,eQ dz⟩
def du(b:Nat):z24':=(b,0)
def eE.ad(sh:eE)(A:sh.al):aC:=
 ZF (eU du sh.bX A).1 (gY du sh.bC (eU du sh.bX A).2)
def AO(H:Nat->b7)(t:V)(av:aL)(r:Option (R×List Nat)):Option ((t.al×R)×List Nat):=
 match (eh t av).run H with
 | some (x,l)=>match r with
  | some (y,m)=>some ((x,y),l++m)
  | none=>none
 | none=>none
def QG(t:V)(av:aL)(r:Option (R×List Nat)):Option ((t.al×R)×List Nat):=
 match av with
 | .eL dN x=>match r with
  | some (y,m)=>if h:dN=t then some ((h ▸ x,y),m) else none
  | none=>none
 | _=>none
def QH(H:Nat->b7)(b:Nat)(av:aL)(r:Option (R×List Nat)):Option (((z24')×R)×List Nat):=
 match r with
 | some (y,m)=>match av with
  | .own bf g=>if (bf == b&&g == (H b).gen&&(H b).body.gS)=true then some (((0,(H b).body.len),y),m) else none
  | .sub bf g a1 G=>if (bf == b&&g == (H b).gen)=true then some (((a1,G),y),m) else none
  | _=>none
 | none=>none
def QI(aI:V)(av:aL)(r:Option (R×List Nat)):Option (((Nat×(List aI.al->Prop)×List aI.al×Bool)×R)×List Nat):=
 match av with
 | .aR l mX ab n ad=>match r with
  | some (y,m)=>if h:mX=aI then some (((l,h ▸ ab,h ▸ n,ad),y),m) else none
  | none=>none
 | _=>none
def QJ(av:aL)(r:Option (R×List Nat)):Option ((Nat×R)×List Nat):=
 match av with
 | .il l=>match r with
  | some (y,m)=>some ((l,y),m)
  | none=>none
 | _=>none
def QK(H:Nat->b7)(b:Nat)(av:aL)(r:Option (R×List Nat)):Option ((Nat×R)×List Nat):=
 match av with
 | .kQ bf g i=>match r with
  | some (y,m)=>if (bf == b&&g == (H b).gen)=true then some ((i,y),m) else none
  | none=>none
 | _=>none
def KJ(H:Nat->b7)(b off:Nat)(av:aL):Bool:=
 match av with
 | .eY bf g apo=>bf == b&&apo == off&&g == (H b).gen
 | _=>false
def KK(H:Nat->b7)(b:Nat)(av:aL):Bool:=
 match av with
 | .own bf g=>bf == b&&g == (H b).gen
 | _=>false
def QL(H:Nat->b7)(b:Nat)(av:aL):Bool:=
 match av with
 | .hk bf g=>bf == b&&g == (H b).gen
 | _=>false
def QM(H:Nat->b7)(b:Nat)(av:aL):Bool:=
 match av with
 | .l2 bf g=>bf == b&&g == (H b).gen
 | _=>false
def QN(H:Nat->b7)(b:Nat)(av:aL):Bool:=
 match av with
 | .eY bf g 0=>bf == b&&g == (H b).gen
 | .hP bf g=>bf == b&&g == (H b).gen
 | .val (.bM _) none=>true
 | .k4 (.pointer none)=>true
 | _=>false
def QO(av:aL):Bool:=
 match av with
 | .dW=>true
 | _=>false
def QP(H:Nat->b7)(f:Nat->Nat)(k:FuncId)(hF:z9')(av:aL):Bool:=
 match av with
 | .ji k' n dQ=>k' == k&&n == hF.length&&(List.range n).all λi=>match hF[i]? with
  | some p=>KJ H (f p.1) p.2 (dQ i)
  | none=>false
 | _=>false
def QQ(H:Nat->b7)(f:Nat->Nat)(dz:List Nat)(av:aL):Bool:=
 match av with
 | .agg n h=>n == dz.length&&(List.range n).all λi=>match dz[i]? with
  | some b=>KK H (f b) (h i)
  | none=>false
 | _=>false
variable {af:Type}
def xd(b:Bool)(r:Option af):Option af:=match b with | true=>r | false=>none
def cc.kT(H:Nat->b7)(f:Nat->Nat)(t:cc)(av:aL)(r:Option (R×List Nat)):Option (t.cons R×List Nat):=
 match t with
 | .undef=>r
 | .val t=>AO H t av r
 | .eL t=>QG t av r
 | .eY b off=>xd (KJ H (f b) off av) r
 | .own b=>xd (KK H (f b) av) r
 | .sub b=>QH H (f b) av r
 | .hk b=>xd (QL H (f b) av) r
 | .l2 b=>xd (QM H (f b) av) r
 | .dW=>xd (QO av) r
 | .ji k hF=>xd (QP H f k hF av) r
 | .aR aI=>QI aI av r
 | .il=>QJ av r
 | .fG dz=>xd (QQ H f dz av) r
 | .kQ b=>QK H (f b) av r
 | .hP b=>xd (QN H (f b) av) r
def Da(H:Nat->b7)(f:Nat->Nat):(l:List cc)->(Nat->aL)->Nat->{R:Type}->Option (R×List Nat)->Option (sO l R×List Nat)
 | [],_,_,_,r=>r
 | t::l,c,i,_,r=>t.kT H f (c i) (Da H f l c (i+1) r)
def QR(H:Nat->b7)(f:Nat->Nat)(t:V)(l:List cc)(b:b8)(r:Option (R×List Nat)):Option (sO l R×List Nat):=
 match b with
 | .cells dN c=>if dN=t/\t.size=l.length then Da H f l c 0 r else none
 | _=>none
def QS(e:V)(b:b8)(r:Option (R×List Nat)):Option ((List e.al×R)×List Nat):=
 match b with
 | .bl aY xs=>match r with
  | some (y,m)=>if h:aY=e then some ((h ▸ xs,y),m) else none
  | none=>none
 | _=>none
def QT(k v:V)(b:b8)(r:Option (R×List Nat)):Option ((List (k.al×v.al)×R)×List Nat):=
 match b with
 | .mp k' iu es=>match r with
  | some (y,m)=>if h:k'=k/\iu=v then some ((h.1 ▸ h.2 ▸ es,y),m) else none
  | none=>none
 | _=>none
def QU(k v:V)(b:b8)(r:Option (R×List Nat)):Option (((Option (k.al×v.al)×List (k.al×v.al))×R)×List Nat):=
 match b with
 | .cE k' iu c es=>match r with
  | some (y,m)=>if h:k'=k/\iu=v then some (((h.1 ▸ h.2 ▸ c,h.1 ▸ h.2 ▸ es),y),m) else none
  | none=>none
 | _=>none
def QV(H:Nat->b7)(f:Nat->Nat)(e:V)(t:cc)(b:b8)(r:Option (R×List Nat)):Option (((List e.al×Nat)×t.cons R)×List Nat):=
 match b with
 | .h7 aY xs i v=>match t.kT H f v r with
  | some (y,m)=>if h:aY=e then some (((h ▸ xs,i),y),m) else none
  | none=>none
 | _=>none
def QW(e:V)(b:b8)(r:Option (R×List Nat)):Option ((List (Nat×List e.al)×R)×List Nat):=
 match b with
 | .bQ aY m=>match r with
  | some (y,l)=>if h:aY=e then some ((h ▸ m,y),l) else none
  | none=>none
 | .ey=>match r with
  | some (y,l)=>some (([],y),l)
  | none=>none
 | _=>none
def QX(H:Nat->b7)(t:V)(b:b8)(r:Option (R×List Nat)):Option ((t.al×R)×List Nat):=
 match b with
 | .cells dN f=>if dN=t then AO H t (.agg t.size f) r else none
 | _=>none
def QY(H:Nat->b7)(t:V)(b:Nat)(r:Option (R×List Nat)):Option ((t.al×R)×List Nat):=
 match (eh (.bM t) (.eY b (H b).gen 0)).run H with
 | some (some x,l)=>match r with
  | some (y,m)=>some ((x,y),l++m)
  | none=>none
 | _=>none
def b'.kT(H:Nat->b7)(f:Nat->Nat)(t:b')(b:Nat)(r:Option (R×List Nat)):Option (t.cons R×List Nat):=
 match t with
 | .cells t l=>QR H f t l (H b).body r
 | .bl e=>QS e (H b).body r
 | .jz e=>AO H (.slice e) (.own b (H b).gen) r
 | .mp k v=>QT k v (H b).body r
 | .k5 k v=>AO H (.map k v) (.hk b (H b).gen) r
 | .gx t=>QX H t (H b).body r
 | .im t=>QY H t b r
 | .cE k v=>QU k v (H b).body r
 | .h7 e t=>QV H f e t (H b).body r
 | .bQ e=>QW e (H b).body r
def Db(H:Nat->b7)(f:Nat->Nat):(l:List (Nat×b'))->Option (pv l×List Nat)
 | []=>some ((),[])
 | p::l=>p.2.kT H f (f p.1) (Db H f l)
def Dc(H:Nat->b7)(f:Nat->Nat):(l:List (Nat×cc))->(Nat->aL)->{R:Type}->Option (R×List Nat)->Option (qX l R×List Nat)
 | [],_,_,r=>r
 | p::l,c,_,r=>p.2.kT H f (c p.1) (Dc H f l c r)
def eE.rH(sh:eE):List Nat:=sh.bC.filterMap λp=>if p.2.GB then some p.1 else none
def eE.Dd(sh:eE)(f:Nat->Nat)(s:aC):Option (sh.al×List Nat):=
 match Dc s.aa f sh.bX s.az (Db s.aa f sh.bC) with
 | some (A,b9)=>if sh.rH.all (λb=>!b9.contains (f b))=true then some (A,b9) else none
 | none=>none
def QZ:List (Nat×b')->Nat->Option b'
 | [],_=>none
 | p::l,b=>if b=p.1 then some p.2 else QZ l b
def Q0(s:aC)(i b bf g':Nat):aC:=
 match decide (bf≠b/\g'=(s.aa bf).gen),(s.aa bf).body with
 | true,.bl e xs=>⟨λj=>if j=i then .own b ((s.aa b).gen+1) else s.az j,λj=>if j=b then ⟨(s.aa b).gen+1,.bl e xs⟩ else if j=bf then ⟨(s.aa bf).gen+1,.ey⟩ else s.aa j⟩
 | _,_=>s
def Q1(dz:List (Nat×b'))(s:aC)(i b:Nat):aC:=
 match s.az i,QZ dz b with
 | .dW,some (.bl e)=>⟨λj=>if j=i then .own b ((s.aa b).gen+1) else s.az j,(s.cn b ⟨(s.aa b).gen+1,.bl e []⟩).aa⟩
 | .own bf g',some (.bl _)=>Q0 s i b bf g'
 | _,_=>s
def Q2(dz:List (Nat×b'))(s:aC)(c j b:Nat):aC:=
 match (s.aa c).body with
 | .cells t f=>match f j,(s.aa b).body,QZ dz b with
  | .dW,.ey,some (.bl e)=>(s.cn b ⟨(s.aa b).gen+1,.bl e []⟩).cn c ⟨(s.aa c).gen,.cells t λq=>if q=j then .own b ((s.aa b).gen+1) else f q⟩
  | _,_,_=>s
 | _=>s
def KL(dz:List (Nat×b')):List (Nat×cc)->aC->aC
 | [],s=>s
 | p::l,s=>KL dz l (match p.2 with | .own b=>Q1 dz s p.1 b | _=>s)
def KM(dz:List (Nat×b'))(c:Nat):List cc->Nat->aC->aC
 | [],_,s=>s
 | t::l,j,s=>KM dz c l (j+1) (match t with | .own b=>Q2 dz s c j b | _=>s)
def KN(dz:List (Nat×b')):List (Nat×b')->aC->aC
 | [],s=>s
 | p::l,s=>KN dz l (match p.2 with | .cells _ ts=>KM dz p.1 ts 0 s | _=>s)
def eE.KO(sh:eE)(s:aC):aC:=KN sh.bC sh.bC (KL sh.bC sh.bX s)
def b'.ZG:b'->Bool
 | .bl _ | .jz _ | .h7 _ _=>true
 | _=>false
def eE.tJ(sh:eE)(s:aC):Bool:=sh.bC.all λp=>!(decide (yh<=p.1)&&p.2.ZG)||decide ((s.aa p.1).gen=0)
def eE.kT(sh:eE)(s:aC):Option (sh.al):=
 match sh.tJ (sh.KO s) with
 | true=>(sh.Dd (λb=>b) (sh.KO s)).map (·.1)
 | false=>none
def eE.pw(sh:eE)(s:aC)(k:sh.al->M bet):M bet:=
 match sh.kT s with
 | some A=>k A
 | none=>dZ
def cc.AP(t:cc)(r:R):t.cons R:=
 match t with
 | .val t=>(t.dU,r)
 | .eL t=>(t.dU,r)
 | .sub _=>((0,0),r)
 | .aR _=>((0,λ_=>False,[],false),r)
 | .il=>(0,r)
 | .kQ _=>(0,r)
 | .undef | .eY _ _ | .own _ | .hk _ | .l2 _ | .dW | .ji _ _ | .fG _ | .hP _=>r
def ZH:(l:List cc)->{R:Type}->R->sO l R
 | [],_,r=>r
 | t::l,_,r=>t.AP (ZH l r)
def b'.AP(t:b'){R:Type}(r:R):t.cons R:=
 match t with
 | .cells _ l=>ZH l r
 | .bl _=>([],r)
 | .jz _=>([],r)
 | .mp _ _=>([],r)
 | .k5 _ _=>([],r)
 | .gx t=>(t.dU,r)
 | .im t=>(t.dU,r)
 | .cE _ _=>((none,[]),r)
 | .h7 _ t=>(([],0),t.AP r)
 | .bQ _=>([],r)
def ZI:(l:List (Nat×b'))->pv l
 | []=>()
 | p::l=>p.2.AP (ZI l)
def ZJ:(l:List (Nat×cc))->{R:Type}->R->qX l R
 | [],_,r=>r
 | p::l,_,r=>p.2.AP (ZJ l r)
def eE.AP(sh:eE):sh.al:=ZJ sh.bX (ZI sh.bC)
structure jH where
 ts:V
 aR:V
 sh:ts.al->M aR.al
 KP:Bool
def aN.dI(c:aN):jH:=⟨c.ts,c.aR,c.sh,true⟩
def M.GC(m:M af):Prop:=∀ x y,m.a7 x->m.a7 y->x=y
open Classical in
def M.val(m:M af)(d:af):af:=if h:∃ x,m.a7 x then h.choose else d
def jH.KQ(c:jH):aN:=⟨c.ts,c.aR,λx=>(c.sh x).fm,λx=>(c.sh x).val c.aR.dU⟩
structure cL where
 cA:eE
 a7:eE
 lh:z10'
 kU:Nat
 sh:cA.al->M a7.al
structure De where
 ts:V
 aI:V
 pre:ts.al->Prop
 seq:ts.al->List aI.al
inductive gq where
 | dI (c:jH)
 | eu (c:cL)
 | cE (c:De)
 | ZK (c:jH)
 | KR (c:cL) (sh:Nat->c.cA.al->M c.a7.al) (ids:List Nat)
 | mB (c:aN)
def KS(bs:Nat->Option aN)(Psi:Nat->Option gq)(k:Nat):Option aN:=
 match Psi k with
 | some (.dI c)=>match c.KP&&!p7 c.aR with
  | true=>some c.KQ
  | false=>none
 | some (.mB c)=>some c
 | some _=>none
 | none=>bs k
def Q3(bs:Nat->Option aN)(Psi:Nat->Option gq)(k:Nat):Option jH:=
 match Psi k with
 | some (.dI c)=>some c
 | some _=>none
 | none=>(bs k).bind λc=>if p7 c.aR=true then none else some c.dI
structure iD where
 af:Type
 d:af
 cy:Prop
 m:M af
 ad:af->aC
 GD:Option (Bool->af->aC)
def ug(s:aC)(o:Oper)(aR:V)(b9:List Nat)(v:aL):aC:=(if aR.pure then s else s.cC b9).set o.dst v
def GF(aP:dV)(s:aC)(o:Oper)(args:List Operand)(dI:jH):Option iD:=
 match (kd dI.ts ((args.map (be aP s.az)).map λv=>(use v).2)).run s.aa with
 | some (x,b9)=>some ⟨dI.aR.al,dI.aR.dU,kg (args.map (be aP s.az)),dI.sh x,λy=>ug s o dI.aR b9 (qM dI.aR y),some λg y=>ug s o dI.aR b9 (.ku g (qM dI.aR y))⟩
 | none=>none
def KT(aP:dV)(s:aC)(o:Oper)(args:List Operand)(dI:jH):Option iD:=
 match (kd dI.ts ((args.map (be aP s.az)).map λv=>(use v).2)).run s.aa with
 | some (x,_)=>some ⟨dI.aR.al,dI.aR.dU,kg (args.map (be aP s.az)),dI.sh x,λy=>s.set o.dst (qM dI.aR y),none⟩
 | none=>none
def GG(aP:dV)(s:aC)(o:Oper)(t:Nat)(args:List Operand):Option iD:=
 match use (s.az t) with
 | (cy,.val (.fn a b) f)=>match (kd a ((args.map (be aP s.az)).map λv=>(use v).2)).run s.aa with
  | some (x,b9)=>some ⟨b.al,b.dU,cy/\kg (args.map (be aP s.az)),f x,λy=>ug s o b b9 (qM b y),some λg y=>ug s o b b9 (.ku g (qM b y))⟩
  | none=>none
 | _=>none
def ZL(t:cc)(av:aL):z9':=
 match t,av with
 | .eY bf _,.eY b _ _=>[(bf,b)]
 | .own bf,.own b _=>[(bf,b)]
 | .hP bf,.eY b _ _=>[(bf,b)]
 | .hP bf,.hP b _=>[(bf,b)]
 | .sub bf,.own b _=>[(bf,b)]
 | .sub bf,.sub b _ _ _=>[(bf,b)]
 | .hk bf,.hk b _=>[(bf,b)]
 | .l2 bf,.l2 b _=>[(bf,b)]
 | .ji _ hF,.ji _ _ dQ=>(List.range hF.length).filterMap λi=>match hF[i]?,dQ i with
  | some p,.eY b _ _=>some (p.1,b)
  | _,_=>none
 | _,_=>[]
def ZM:List cc->(Nat->aL)->Nat->z9'
 | [],_,_=>[]
 | t::l,c,i=>ZL t (c i)++ZM l c (i+1)
def Q4:z9'->Nat->Option Nat
 | [],_=>none
 | p::l,b=>if b=p.1 then some p.2 else Q4 l b
def ZN(H:Nat->b7):List (Nat×b')->z9'->z9'
 | [],m=>m
 | p::l,m=>ZN H l (m++match p.2,Q4 m p.1 with
  | .cells _ ts,some b=>(match (H b).body with | .cells _ c=>ZM ts c 0 | _=>[])
  | _,_=>[])
def apq(sh:eE)(s:aC):z9':=ZN s.aa sh.bC (sh.bX.flatMap λp=>ZL p.2 (s.az p.1))
def vs(s:aC)(cV:List aL):aC:=⟨λi=>if i=ca then s.az ca else if i<cV.length then cV.getD i .undef else .undef,s.aa⟩
def sP:Nat:=99999
def sQ(s:aC)(d:Nat)(f:Nat->Nat)(ins:List Nat):List (Nat×b')->Nat->z8'
 | [],_=>[]
 | p::l,j=>(if p.2.l3 then (p.1,(cx,(s.aa cx).gen)) else if ins.contains p.1 then (p.1,(f p.1,match p.2 with
   | .cells _ _ | .gx _ | .mp _ _ | .im _ | .k5 _ _=>(s.aa (f p.1)).gen
   | .bl _=>if yh<=p.1 then (s.aa (f p.1)).gen else (s.aa (f p.1)).gen+1
   | _=>(s.aa (f p.1)).gen+1)) else (p.1,(50000+10*d+j,(s.aa (50000+10*d+j)).gen+1)))::sQ s d f ins l (j+1)
def gL:z8'->Nat->z24'
 | [],_=>(sP,0)
 | p::l,b=>if b=p.1 then p.2 else gL l b
def rI:z10'->(Nat->aL)->Nat->List aL
 | [],_,_=>[]
 | none::l,c,i=>c i::rI l c (i+1)
 | some n::l,c,i=>.agg n (λj=>c (i+j))::rI l c (i+n)
def Q5(l:List aL):aL:=
 match l with
 | [v]=>v
 | l=>.sz l.length (hX l)
def AQ(s:aC)(c:cL)(f:Nat->Nat)(cq:z8')(bk:c.a7.al):aC:=
 ⟨λi=>if i=ca then (if c.a7.bX.any (λp=>p.1 == ca) then fi (eU (gL cq) c.a7.bX bk).1 ca else if c.cA.bX.any (λp=>p.1 == ca) then .undef else s.az ca) else s.az i,λb=>match cq.find? (λp=>p.2.1 == b) with
  | some p=>⟨p.2.2,(eQ (gY (gL cq) c.a7.bC (eU (gL cq) c.a7.bX bk).2) p.1).body⟩
  | none=>if (c.cA.rH.map f).contains b then ⟨(s.aa b).gen+1,.ey⟩ else s.aa b⟩
def apr(s:aC)(o:Oper)(c:cL)(f:Nat->Nat)(cq:z8')(bk:c.a7.al):aC:=
 aC.set (AQ s c f cq bk) o.dst (Q5 (rI c.lh (fi (eU (gL cq) c.a7.bX bk).1) 0))
def KU(l:List Nat):Bool:=decide l.Nodup
def ZO(ins a7:List (Nat×b'))(aR:aL):Bool:=
 (ins++a7).all (λp=>!p.2.l3||decide (p.1=cx))&&(!(ins.any λp=>p.2.l3)||a7.any λp=>p.2.l3)&&(!(a7.any λp=>p.2.l3)||match aR with | .aR ..=>false | _=>true)
def GH(c:cL)(f:Nat->Nat)(s2:aC)(cq:z8')(d n:Nat):Bool:=
  decide (d < 4000) && decide (c.a7.bC.length <= 10) && KU (c.cA.bC.map (·.1)) && KU (c.cA.bC.map λp => f p.1) && KU (cq.map (·.1)) && KU (cq.map (·.2.1)) && (c.cA.bC.map (·.1)).all (λb => decide (fE <= b))
        &&!(cq.map (·.2.1)).contains sP&&(match (s2.aa sP).body with | .ey=>true | _=>false)&&c.a7.bC.all (λp=>c.cA.bC.all λq=>!(p.1 == q.1&&q.2.GB)||p.2.KI q.2)&&(decide (n=c.kU)&&decide (n<=fE))
        &&(ZO c.cA.bC c.a7.bC (s2.az ca)&&(decide (f cx=cx)&&(!(s2.aa cx).body.l3||!c.a7.bX.any (λp=>p.1 == ca))))
def vt(aP:dV)(s:aC)(args:List Operand):List aL:=(args.map (be aP s.az)).map λv=>(use v).2
def vu(c:cL)(s1:aC)(b:Nat):Nat:=if b=cx then cx else (Q4 (apq c.cA s1) b).getD sP
def AR(s:aC)(o:Oper)(c:cL)(cV:List aL)(cy:Prop)(n:Nat):Option iD:=
 match c.cA.Dd (vu c (vs s cV)) (vs s cV) with
 | some (A,b9)=>match GH c (vu c (vs s cV)) (s.cC b9) (sQ (s.cC b9) (o.dst.getD 0) (vu c (vs s cV)) c.cA.rH c.a7.bC 0) (o.dst.getD 0) n with
  | true=>some ⟨c.a7.al,c.a7.AP,cy,c.sh A,λbk=>apr (s.cC b9) o c (vu c (vs s cV)) (sQ (s.cC b9) (o.dst.getD 0) (vu c (vs s cV)) c.cA.rH c.a7.bC 0) bk,none⟩
  | false=>none
 | none=>none
def GI(aP:dV)(s:aC)(o:Oper)(args:List Operand)(c:cL):Option iD:=
 AR s o c (vt aP s args) (kg (args.map (be aP s.az))) args.length
def KV(aP:dV)(Psi:Nat->Option gq)(s:aC)(o:Oper)(t:Nat)(args:List Operand):Option iD:=
 match use (s.az t) with
 | (cy,.ji k n dQ)=>match Psi k with
  | some (.eu c)=>AR s o c (vt aP s args++(List.range n).map dQ) (cy/\kg (args.map (be aP s.az))) (args.length+n)
  | _=>none
 | _=>none
def ZP(e:V)(b:b8):Option (List (Nat×List e.al)):=
 match b with
 | .ey=>some []
 | b=>Ak e b
def KW(aP:dV)(T:Nat->V)(s:aC)(o:Oper)(src dst:TypeId)(x:Operand):Option iD:=
 match s.az ca with
 | .aR ..=>none
 | _=>if T dst=.cN (.int .u8)/\T src=.str then (match use (be aP s.az x) with
  | (cy,.val .str b)=>match ZP (.int .u8) (s.aa cx).body with
   | some m=>some ⟨Nat,0,cy,ag (cb b.length) (mM λid=>id ∉ m.map (·.1)),λid=>(s.cn cx ⟨(s.aa cx).gen,.bQ (.int .u8) ((id,c_ b)::m)⟩).set o.dst (.val (.cN (.int .u8)) (id,0,b.length)),none⟩
   | none=>none
  | _=>none) else none
def ZQ:Nat:=999999
def ZR(c:cL)(sh:Nat->c.cA.al->M c.a7.al)(ids:List Nat)(n:Option Nat):cL:={ c with sh:=λA=>ag (∃ k∈ids,n=some k) (sh (n.getD 0) A) }
def KX(aP:dV)(Psi:Nat->Option gq)(s:aC)(o:Oper)(t:Nat)(args:List Operand):Option iD:=
 match s.az t with
 | .val .eW n=>match Psi ZQ with
  | some (.KR c sh ids)=>GI aP s o args (ZR c sh ids n)
  | _=>none
 | _=>none
def KY(aP:dV)(s:aC)(o:Oper)(t:Nat)(args:List Operand):Option iD:=
 match s.az t,s.az ca with
 | .il et,.aR l aI ab n ad=>match (kd aI ((args.map (be aP s.az)).map λv=>(use v).2)).run s.aa with
  | some (x,b9)=>some ⟨Bool,false,kg (args.map (be aP s.az)),ag (et=l/\ad=false/\∃ T,ab (n++x::T)) (mM λ_=>True),λb=>aC.set ⟨λi=>if i=ca then .aR l aI ab (n++[x]) (!b) else s.az i,(s.cC b9).aa⟩ o.dst (.val .bool b),none⟩
  | none=>none
 | _,_=>none
def KZ(aP:dV)(T:Nat->V)(s:aC)(o:Oper)(ty:TypeId)(x:Operand):Option iD:=
 match T ty,o.dst with
 | .map k v,some d=>match use (be aP s.az x) with
  | (cy,av)=>match (eh (.map k v) av).run s.aa with
   | some (es,b9)=>if b9.contains d then none else
    some ⟨Unit,(),cy,mpure (),λ_=>((s.cC b9).cn d ⟨(s.aa d).gen+1,.cE k v none es⟩).set o.dst (.l2 d ((s.aa d).gen+1)),none⟩
   | none=>none
 | _,_=>none
def K1(l:List af):M (Option Nat):=⟨True,λx=>match x with | none=>l=[] | some i=>i<l.length⟩
def ZS(i:Option Nat):Nat:=match i with | none=>0 | some _=>2
def qg(c:Option af)(b6:List af)(i:Option Nat):Option af:=match i with | none=>c | some i=>b6[i]?
def GJ(b6:List af)(i:Option Nat):List af:=match i with | none=>b6 | some i=>b6.eraseIdx i
def K3(aP:dV)(s:aC)(o:Oper)(x:Operand)(str:Bool):Option iD:=
 match str,be aP s.az x with
 | false,.l2 b g=>if (s.aa b).gen=g then (match (s.aa b).body with
  | .cE k v c b6=>some ⟨Option Nat,none,True,K1 b6,λi=>(s.cn b ⟨g,.cE k v (qg c b6 i) (GJ b6 i)⟩).set o.dst (.sz (Nat.succ (ZS i)) (hX [.val .bool i.isSome])),none⟩
  | _=>none) else none
 | _,_=>none
def K4(aP:dV)(s:aC)(o:Oper)(x:Operand):Option iD:=
 match be aP s.az x with
 | .l2 b g=>if (s.aa b).gen=g then (match (s.aa b).body with
  | .cE k v c _=>some ⟨Unit,(),True,ag (c.isSome=true) (mpure ()),λ_=>s.set o.dst (.sz 2 (hX [.val k ((c.map (·.1)).getD k.dU),.val v ((c.map (·.2)).getD v.dU)])),none⟩
  | _=>none) else none
 | _=>none
def GK(aP:dV)(T:Nat->V)(s:aC)(o:Oper)(op:BinOp)(ty:TypeId)(x y:Operand):Option iD:=
 match T ty,be aP s.az y with
 | .slice e,.dW=>match (eh (.slice e) (use (be aP s.az x)).2).run s.aa with
  | some (xs,_)=>match op with
   | .eql=>some ⟨Bool,false,(use (be aP s.az x)).1,mM λb=>b=true->xs=[],λb=>s.set o.dst (.val .bool b),none⟩
   | .neq=>some ⟨Bool,false,(use (be aP s.az x)).1,mM λb=>b=true->xs=[],λb=>s.set o.dst (.val .bool (!b)),none⟩
   | _=>none
  | none=>none
 | _,_=>none
def uh(aP:dV)(T:Nat->V)(bs:Nat->Option aN)(Psi:Nat->Option gq)(s:aC)(o:Oper):Option iD:=
 match o.op with
 | .call c=>match c.callee with
  | .value f=>match f with
   | .func k=>match Psi k with
    | some (.eu gl)=>GI aP s o c.args.toList gl
    | some (.ZK gl)=>KT aP s o c.args.toList gl
    | _=>match Q3 bs Psi k with
     | some dI=>GF aP s o c.args.toList dI
     | none=>none
   | .tmp t=>match GG aP s o t c.args.toList with
    | some r=>some r
    | none=>match KX aP Psi s o t c.args.toList with
     | some r=>some r
     | none=>match KV aP Psi s o t c.args.toList with
      | some r=>some r
      | none=>KY aP s o t c.args.toList
   | _=>none
  | _=>none
 | .range ty x=>KZ aP T s o ty x
 | .next x str=>K3 aP s o x str
 | .entry x=>K4 aP s o x
 | .binOp op ty x y _=>GK aP T s o op ty x y
 | .convert src dst x=>KW aP T s o src dst x
 | _=>none
def qY(g:Bool)(m:M af)(d:af):M af:=if g=true then m else mpure d
def yC(b:Bool)(p:Prop)(m:M bet):M bet:=match b with | true=>m | false=>ag p m
def K5(o:Oper)(ho:aL)(l:List (Nat×b7)):Option (List (Nat×b7)×aL):=
 match l with
 | []=>some ([],ho)
 | p::et=>match o.op with
  | .makeFunc ..=>some (p::et,ho)
  | .buildSlice _ n _=>match et,ho,p.2.body with
   | [],.own bf g',.bl e xs=>if (bf=p.1/\g'=p.2.gen)/\n≠0 then some ([(p.1,⟨p.2.gen,.ey⟩)],.val (.slice e) xs) else none
   | _,_,_=>none
  | _=>none
def ZT(jC:List (Nat×b7))(ho:aL):aL:=
 match ho with
 | .own b _=>match jC.find? (λp=>p.1 == b) with
  | some (_,⟨_,.bl e xs⟩)=>.val (.slice e) xs
  | _=>ho
 | _=>ho
abbrev rJ:=List (Nat×(Nat×Bool))
def yD(ops:Array Oper)(j d:Nat):Bool:=match ops[j]? with | some o=>(match o.dst with | some e=>e == d | none=>false) | none=>false
def aps(e':rJ)(t:Nat)(k:Nat×Bool):Bool:=e'.any λp=>p.1 == t&&(p.2.1 == k.1&&p.2.2 == k.2)
def AS(ops:Array Oper)(e':rJ)(o:Oper):rJ:=
 match o.dst with
 | none=>e'
 | some d=>match o.guard with
  | some k=>if yD ops k.1 d=true then e'.filter λp=>p.1 != d&&!yD ops p.2.1 d else (d,k)::e'.filter λp=>p.1 != d&&!yD ops p.2.1 d
  | none=>e'.filter λp=>p.1 != d&&!yD ops p.2.1 d
def AT(rho:Operand->aL)(e':rJ)(gk:Option (Nat×Bool))(x:Operand):Bool:=
 !(rho x).C3||(match x,gk with | .tmp t,some k=>aps e' t k | _,_=>false)
def K6(ops:Array Oper)(e':rJ)(c x:Operand)(want:Bool):Bool:=
 match c,x with
 | .tmp c,.tmp t=>e'.any λp=>p.1 == t&&(yD ops p.2.1 c&&p.2.2 == want)
 | _,_=>false
def Q6(rho:Operand->aL)(e':rJ)(gk:Option (Nat×Bool))(o:Oper):Bool:=o.op.operands.toList.all (AT rho e' gk)
def GL(rho:Operand->aL)(ops:Array Oper)(e':rJ)(gk:Option (Nat×Bool))(o:Oper):Bool:=
 match o.op with
 | .pick c a b=>AT rho e' gk c&&((AT rho e' gk a||K6 ops e' c a true)&&(AT rho e' gk b||K6 ops e' c b false))
 | _=>Q6 rho e' gk o
def Q7(rho:Operand->aL)(e':rJ)(gk:Option (Nat×Bool))(o:Oper)(ho:aL):Bool:=
 !ho.C3||(match o.op with | .move x=>AT rho e' gk x | _=>false)
def j4:Operand->Option Nat
 | .tmp t=>some t
 | _=>none
def Df(o gV nw:Oper):Option (Oper×Nat×Nat):=
 match o.op with
 | .mapEntry ty m x=>match gV.op with
  | .extract e 1=>match nw.op with
   | .entryStore mQ dp aY y=>match o.dst,gV.dst,nw.dst with
    | some d1,some d2,none=>if j4 e=some d1/\j4 aY=some d2/\mQ=ty/\(j4 dp).isSome=true/\j4 dp=j4 m/\(j4 y).isSome=true/\j4 m≠some d1/\j4 m≠some d2/\j4 y≠some d1/\j4 y≠some d2/\o.guard.isNone=true/\gV.guard.isNone=true/\nw.guard.isNone=true
     then some ({ nw with op:=.mapUpdate ty m x y },d1,d2) else none
    | _,_,_=>none
   | _=>none
  | _=>none
 | _=>none
def Dg(o:Oper)(os:List Oper):Option (Oper×Nat×Nat):=
 match os with
 | gV::nw::_=>Df o gV nw
 | _=>none
def K7{bet:Type}:Nat->Int->(Nat->M bet)->M bet
 | 0,_,_=>dZ
 | 1,_,k=>k 0
 | n+2,v,k=>if v=((n+1:Nat):Int) then k (n+1) else K7 (n+1) v k
theorem ZU{bet:Type}{O:bet->Prop}{k:Nat->M bet}{v:Int}:∀ {n:Nat},c6 (K7 n v k) O->0<=v->v<(n:Int)->c6 (k v.toNat) O
 | 0,h,_,_=>h.1.elim
 | 1,h,aV,E=>by
  have:v.toNat=0:=by omega
  rw[this];exact h
 | n+2,h,aV,E=>by
  unfold K7 at h;split at h
  ·grind
  ·exact ZU h aV (by omega)
def oR{bet:Type}(aP:dV)(T:Nat->V)(bs:Nat->Option aN)(Psi:Nat->Option gq)(ops:Array Oper):List Oper->rJ->aC->(aC->M bet)->M bet
 | [],_,s,k=>k s
 | o::os,e',s,k=>
  match Dg o os with
  | some (lI,d1,d2)=>match os with
   | _::_::apt=>match (iv aP T bs (be aP s.az) lI).run s.aa with
    | some res=>ag res.cy (ag res.c (oR aP T bs Psi ops apt [] (((s.jE none res).set (some d1) .undef).set (some d2) .undef) k))
    | none=>dZ
   | _=>dZ
  | none=>
  match mb s.az ops o.guard with
  | none=>dZ
  | some none=>match (iv aP T bs (be aP s.az) o).run s.aa with
   | some res=>yC (GL (be aP s.az) ops e' none o) res.cy (yC (vq (be aP s.az) o) res.c (oR aP T bs Psi ops os (AS ops e' o) (s.jE o.dst res) k))
   | none=>match uh aP T bs Psi s o with
    | some cG=>yC (ud (be aP s.az) o) cG.cy (aq cG.m λy=>oR aP T bs Psi ops os [] (cG.ad y) k)
    | none=>dZ
  | some (some g)=>match (iv aP T bs (be aP s.az) o).run s.aa with
   | some ⟨cy,c,ho,jC⟩=>match K5 o ho jC with
    | some (AU,vv)=>yC (GL (be aP s.az) ops e' o.guard o&&(vq (be aP s.az) o&&Q7 (be aP s.az) e' o.guard o vv)) (g=true->cy/\(c/\(use vv).1)) (oR aP T bs Psi ops os (AS ops e' o) ((s.iw AU).set o.dst (.ku g (use vv).2)) k)
    | none=>if g=true then ag cy (ag c (oR aP T bs Psi ops os [] (s.jE o.dst ⟨cy,c,ho,jC⟩) k)) else oR aP T bs Psi ops os [] (s.set o.dst (.ku false (ZT jC (use ho).2))) k
   | none=>match uh aP T bs Psi s o with
    | some cG=>match cG.GD with
     | some gs=>yC (Q6 (be aP s.az) e' o.guard o) (g=true->cG.cy) (aq (qY g cG.m cG.d) λy=>oR aP T bs Psi ops os (AS ops e' o) (gs g y) k)
     | none=>if g=true then ag cG.cy (aq cG.m λy=>oR aP T bs Psi ops os [] (cG.ad y) k) else oR aP T bs Psi ops os [] (s.set o.dst (.ku false (use ((cG.ad cG.d).az (o.dst.getD 0))).2)) k
    | none=>dZ
def yE{bet:Type}:List Prop->M bet->M bet
 | [],m=>m
 | p::l,m=>ag p (yE l m)
def Dh(cl:List (List Nat)):Nat->Nat
 | 0=>0
 | n+1=>if (List.range n).all (λi=>(cl.getD n []).contains i)=true then Dh cl n else n+1
def Q8(ia kk jI kE od:Oper):Bool:=
 match ia.op,kk.op,jI.op with
 | .lookup ty m x false,.binOp .add _ (.tmp t) (.const (.int k c)) _,.mapEntry mQ dp eP=>match ia.dst,kk.dst,Df jI kE od with
  | some fa,some hr,some (_,d1,d2)=>decide (t=fa/\mQ=ty/\gQ k c/\j4 dp=j4 m/\j4 eP=j4 x/\fa≠hr/\fa≠d1/\fa≠d2/\hr≠d1/\hr≠d2/\d1≠d2/\
    (j4 m).isSome=true/\(j4 x).isSome=true/\j4 m≠some fa/\j4 m≠some hr/\j4 m≠some d1/\j4 m≠some d2/\j4 x≠some fa/\j4 x≠some hr/\j4 x≠some d1/\j4 x≠some d2/\ia.guard.isNone=true/\kk.guard.isNone=true)
  | _,_,_=>false
 | _,_,_=>false
def K8(ops:List Oper):Bool:=
 match ops.drop (ops.length - 5) with
 | [ia,kk,jI,kE,od]=>Q8 ia kk jI kE od&&(C9 ops&&((List.range 5).all λq=>(List.range (ops.length - 5)).all λi=>((jG ops).getD (ops.length - 5+q) []).contains i)&&
   ((jG ops).getD (ops.length - 5+1) []).contains (ops.length - 5)&&((jG ops).getD (ops.length - 5+3) []).contains (ops.length - 5+2)&&((List.range 4).all λq=>((jG ops).getD (ops.length - 5+4) []).contains (ops.length - 5+q))&&
   (lH jI).all (λi=>decide (i<ops.length - 5))&&(lH kE).all (λi=>decide (i<ops.length - 5)||decide (i=ops.length - 5+2)))
 | _=>false
def rK(ops:List Oper):Nat:=if K8 ops=true then ops.length - 5 else Dh (jG ops) ops.length
def K9(ops:List Oper)(n:Nat):Bool:=
 C9 ops&&(decide (n<ops.length)&&(List.range ops.length).all λj=>(decide (j<n)||(List.range n).all λi=>((jG ops).getD j []).contains i)&&(decide (j<=n)||((jG ops).getD j []).contains n))
def ZV(cl:List (List Nat))(n:Nat)(l:List eT):Bool:=
 (List.range l.length).all λj=>(List.range j).all λi=>match l[i]?,l[j]? with
  | some a,some b=>(cl.getD (n+j) []).contains (n+i)||a.apart b
  | _,_=>false
def K_(aP:dV)(T:Nat->V)(bs:Nat->Option aN)(ops:Array Oper):List Oper->aC->Nat
 | [],_=>0
 | o::os,s=>match vr aP T bs ops s o with
  | none=>0
  | some r=>K_ aP T bs ops os (r.jV s)+1
def ZW(aP:dV)(T:Nat->V)(bs:Nat->Option aN)(Psi:Nat->Option gq)(ops:Array Oper)(n:Nat)(s:aC)(k:aC->M bet):M bet:=
 match xb aP T bs ops (ops.toList.take n) s with
 | some (l,s1)=>match AI (ops.toList.take n) l with
  | true=>match ops[n]? with
   | some o=>match mb s1.az ops o.guard with
    | some none=>match uh aP T bs Psi s1 o with
     | some cG=>yE (l.flatMap eT.cs) (yC (ud (be aP s1.az) o) cG.cy (aq cG.m λy=>match xb aP T bs ops (ops.toList.drop (n+1)) (cG.ad y) with
      | some (gB,s2)=>match ZV (jG ops.toList) (n+1) gB with
       | true=>yE (gB.flatMap eT.cs) (k s2)
       | false=>dZ
      | none=>dZ))
     | none=>dZ
    | _=>dZ
   | none=>dZ
  | false=>dZ
 | none=>dZ
def Di(aP:dV)(T:Nat->V)(bs:Nat->Option aN)(Psi:Nat->Option gq)(ops:Array Oper)(s:aC)(k:aC->M bet):M bet:=
 match xb aP T bs ops ops.toList s with
 | some (l,s')=>match AI ops.toList l with
  | true=>yE (l.flatMap eT.cs) (k s')
  | false=>dZ
 | none=>match xb aP T bs ops (ops.toList.take (rK ops.toList)) s with
  | some (l,s')=>match AI (ops.toList.take (rK ops.toList)) l&&C9 ops.toList with
   | true=>yE (l.flatMap eT.cs) (oR aP T bs Psi ops (ops.toList.drop (rK ops.toList)) [] s' k)
   | false=>dZ
  | none=>match K9 ops.toList (K_ aP T bs ops ops.toList s) with
   | true=>ZW aP T bs Psi ops (K_ aP T bs ops ops.toList s) s k
   | false=>dZ
def nx(ops:List Oper):List Oper:=
 match ops with
 | []=>[]
 | o::l=>o::l.map λp=>{ p with after:=p.after.push ⟨0,.phase⟩ }
def Q9(ops:Array Oper):Bool:=
 match ops.toList with
 | []=>false
 | o::l=>(match o.op with | .move _=>true | _=>false)&&(o.guard.isNone&&(o.after.isEmpty&&(Region.noSelect ops&&l.all λp=>(lH p).contains 0||o.apart ops p)))
inductive cU where
 | fg
 | seq (a b:cU)
 | join (sh:eE) (a b:cU)
 | cond (a b:cU)
 | block (a:cU)
 | loop (sh:eE) (a:cU)
 | scope (a:cU)
 | range (sh rin ea:eE) (a b:cU)
 | iI (a b:cU)
 | split (i off n:Nat) (a:cU)
 | num (i n:Nat) (a:cU)
 | n9 (i:Nat) (a:cU)
 | K' (b:Nat) (a:cU)
 | La
def cU.fJ:cU->Bool
 | .fg=>true
 | .seq a b=>a.fJ&&b.fJ
 | .join _ a b=>a.fJ&&b.fJ
 | .cond a b=>a.fJ&&b.fJ
 | .block a=>a.fJ
 | .loop _ a=>a.fJ
 | .scope a=>a.fJ
 | .range ..=>false
 | .iI a b=>a.fJ&&b.fJ
 | .split _ _ _ a=>a.fJ
 | .num _ _ a=>a.fJ
 | .n9 _ a=>a.fJ
 | .K' _ a=>a.fJ
 | .La=>false
def cU.qZ:cU->Bool
 | .iI ..=>true
 | .fg=>true
 | _=>false
inductive dS where
 | normal
 | exit (id:Nat)
 | ret
def dS.rL:dS->Exit
 | .normal=>.normal
 | .exit id=>.exit id
 | .ret=>.ret
def ZX(k:dS->aC->M bet)(f:aC->M bet)(e:dS)(s:aC):M bet:=
 match e with
 | .normal=>f s
 | .exit id=>k (.exit id) s
 | .ret=>k .ret s
def AV{A:Type}(k:dS->aC->M bet)(f:aC->M (aF A bet))(e:dS)(s:aC):M (aF A bet):=
 match e with
 | .normal=>f s
 | .exit id=>aq (k (.exit id) s) λr=>mpure (.done r)
 | .ret=>aq (k .ret s) λr=>mpure (.done r)
def ZY(id:Nat)(k:dS->aC->M bet)(e:dS)(s:aC):M bet:=
 match e with
 | .normal=>k .normal s
 | .exit sN=>if sN=id then k .normal s else k (.exit sN) s
 | .ret=>k .ret s
def aF.gb{A:Type}(f:A->M bet)(ad:aF A bet):M bet:=
 match ad with
 | .next x=>f x
 | .done r=>mpure r
def ZZ(v:aL)(m n:M bet):M bet:=
 match v with
 | .val .bool t=>if t=true then m else n
 | .ku g (.val .bool t)=>ag (g=true) (if t=true then m else n)
 | _=>dZ
def ny(s:aC)(i off:Nat):Option (Int×(Nat->aC)):=
 match s.az i with
 | .eY b _ o=>match (s.aa b).body with
  | .cells t f=>match f (o+off) with
   | .val (.int AW) x=>some (x,λj=>⟨s.az,λbf=>if bf=b then ⟨(s.aa b).gen,.cells t λq=>if q=o+off then .val (.int AW) (j:Int) else f q⟩ else s.aa bf⟩)
   | _=>none
  | _=>none
 | _=>none
variable {s:aC}{i:Nat}{off:Nat}{f:Nat->aC}
theorem apu{x:Int}(h:ny s i off=some (x,f))(aV:0<=x):f x.toNat=s:=by
 unfold ny at h;split at h
 ·rename_i b g o ay;split at h
  ·rename_i t kz U;split at h
   ·rename_i AW eP ao;simp  at h;obtain⟨rfl,rfl⟩:=h;have aB:(λq=>if q=o+off then aL.val (.int AW) ((eP.toNat)) else kz q)=kz:=by
     grind
    have bt:(λbf=>if bf=b then (⟨(s.aa b).gen,.cells t kz⟩) else s.aa bf)=s.aa:=by
     funext q;split
     ·rename_i e;rw[e,<-U]
     ·rfl
    simp_all
   grind
  grind
 grind
def ui(s:aC)(i:Nat):Option (Int×(Nat->aC)):=
 match s.az i with
 | .val (.int AW) x=>some (x,λn=>⟨λj=>if j=i then .val (.int AW) (n:Int) else s.az j,s.aa⟩)
 | _=>none
theorem apv{n:Nat}{x:Int}(h:ui s i=some (x,f))(aV:x=(n:Int)):f n=s:=by
 unfold ui at h;split at h
 ·rename_i AW eP ay;obtain⟨rfl,rfl⟩:=h;have aB:(λj=>if j=i then aL.val (.int AW) (n) else s.az j)=s.az:=by
   grind
  simp_all
 grind
def Q_(s:aC)(i:Nat):Option aC:=
 match s.az i with
 | .qJ b g n off=>match (s.aa b).body,off with
  | .bl (.ad (.slice e)) xs,0=>if g=(s.aa b).gen then some ⟨λj=>if j=i then .kQ b g n else s.az j,λbf=>if bf=b then ⟨g,.h7 (.ad (.slice e)) xs n (.val (.slice e) (xs.getD n []))⟩ else s.aa bf⟩ else none
  | _,_=>none
 | _=>none
def Q'(s:aC)(b:Nat):Option aC:=
 match (s.aa b).body with
 | .h7 (.ad (.slice e)) xs n v=>match (eh (.slice e) v).run s.aa with
  | some (y,b9)=>if b9.contains b then none else some ((s.cC b9).cn b ⟨(s.aa b).gen,.bl (.ad (.slice e)) (xs.set n y)⟩)
  | none=>none
 | _=>none
def kl{A af:Type}(body:A->af->M (dS×A)):List af->A->M (dS×A)
 | [],A=>mpure (.normal,A)
 | x::xs,A=>aq (body A x) λp=>match p.1 with
  | .normal=>kl body xs p.2
  | .exit id=>mpure (.exit id,p.2)
  | .ret=>mpure (.ret,p.2)
def Dj(aI:V)(x:aI.al):List Tmp->Nat->(Nat->aL)->Nat->aL
 | [],_,f=>f
 | p::bu,i,f=>Dj aI x bu (i+1) (λj=>if j=p then kc aI x i else f j)
def AX(s:aC)(aI:V)(x:aI.al)(bu:List Tmp):aC:=⟨λi=>if i=ca then s.az ca else Dj aI x bu 0 s.az i,s.aa⟩
def AY(rin ea:eE):cL:=⟨rin,ea,[],0,λ_=>dZ⟩
def xe{bk:Type}(sh rin ea:eE)(aI:V)(bu:List Tmp)(A:sh.al)(x:aI.al)(run:aC->M (bk×ea.al)):M (bk×sh.al):=
 match rin.Dd (vu (AY rin ea) (AX (sh.ad A) aI x bu)) (AX (sh.ad A) aI x bu) with
 | some (rho,b9)=>match GH (AY rin ea) (vu (AY rin ea) (AX (sh.ad A) aI x bu)) ((sh.ad A).cC b9) (sQ ((sh.ad A).cC b9) 0 (vu (AY rin ea) (AX (sh.ad A) aI x bu)) rin.rH ea.bC 0) 0 0 with
  | true=>aq (run (rin.ad rho)) λp=>sh.pw (AQ ((sh.ad A).cC b9) (AY rin ea) (vu (AY rin ea) (AX (sh.ad A) aI x bu)) (sQ ((sh.ad A).cC b9) 0 (vu (AY rin ea) (AX (sh.ad A) aI x bu)) rin.rH ea.bC 0) p.2) λkF=>mpure (p.1,kF)
  | false=>dZ
 | none=>dZ
def nz(sh ea:eE)(aI:V)(bu:List Tmp)(bV:Nat):Bool:=
 (ea.bX.isEmpty&&(!ea.bC.any (λp=>p.2.l3)&&!sh.bC.any (λp=>p.2.l3)))&&!sh.bX.any (λp=>p.1 == ca)&&decide (aI≠.dh)&&decide (bu.length=jS aI)&&bu.all λp=>decide (p<bV)
def Lb(f:aC->M bet)(e:dS)(s:aC):M bet:=
 match e with
 | .normal=>f s
 | .exit _=>dZ
 | .ret=>dZ
def yF(n:M bet)(x:Nat->M bet)(r:M bet)(e:dS):M bet:=
 match e with
 | .normal=>n
 | .exit id=>x id
 | .ret=>r
def Ra(k:dS->aC->M bet)(e:dS)(s:aC):M bet:=yF (k .normal s) (λid=>k (.exit id) s) (k .ret s) e
theorem Z0(k:dS->aC->M bet)(e:dS)(s:aC):Ra k e s=k e s:=by cases e<;>rfl
def fW(aP:dV)(T:Nat->V)(bs:Nat->Option aN)(Psi:Nat->Option gq):cU->{bet:Type}->Code->aC->(dS->aC->M bet)->M bet
 | .seq a b,_,c,s,k=>match c with
  | .seq x y=>fW aP T bs Psi a x s (ZX k λs'=>fW aP T bs Psi b y s' k)
  | _=>dZ
 | .join sh a b,bet,c,s,k=>match c with
  | .seq x y=>aq (fW aP T bs Psi a (bet:=aF sh.al bet) x s (AV k λs'=>sh.pw s' λA=>mpure (.next A))) (aF.gb λA=>fW aP T bs Psi b y (sh.ad A) k)
  | _=>dZ
 | .cond a b,_,c,s,k=>match c with
  | .cond c x y=>ZZ (be aP s.az c) (fW aP T bs Psi a x s k) (fW aP T bs Psi b y s k)
  | _=>dZ
 | .block a,_,c,s,k=>match c with
  | .block id c=>fW aP T bs Psi a c s (ZY id k)
  | _=>dZ
 | .loop sh a,bet,c,s,k=>match c with
  | .loop c=>sh.pw s λA=>dG (λA=>fW aP T bs Psi a (bet:=aF sh.al bet) c (sh.ad A) (AV k λs'=>sh.pw s' λkF=>mpure (.next kF))) A
  | _=>dZ
 | .iI a b,_,c,s,k=>match c with
  | .loop x=>match b.qZ with
   | true=>fW aP T bs Psi a x s (ZX k λs'=>fW aP T bs Psi b (.loop x) s' k)
   | false=>dZ
  | _=>dZ
 | .scope a,_,c,s,k=>match c with
  | .scope c=>fW aP T bs Psi a c s k
  | _=>dZ
 | .num i n a,_,c,s,k=>match ui s i with
  | some (x,f)=>ag (x=(n:Int)) (fW aP T bs Psi a c (f n) k)
  | none=>dZ
 | .n9 i a,_,c,s,k=>match Q_ s i with
  | some s'=>fW aP T bs Psi a c s' k
  | none=>dZ
 | .K' b a,_,c,s,k=>match Q' s b with
  | some s'=>fW aP T bs Psi a c s' k
  | none=>dZ
 | .split i off n a,_,c,s,k=>match ny s i off with
  | some (x,f)=>ag (0<=x/\x<(n:Int)) (K7 n x λj=>fW aP T bs Psi a c (f j) k)
  | none=>dZ
 | .range sh rin ea a b,_,c,s,k=>match c with
  | .rangeFunc g bu assign body=>match be aP s.az g with
   | .u7 uj n f_=>match Psi uj with
    | some (.cE ic)=>match (kd ic.ts ((List.range n).map f_)).run s.aa with
     | some (x,b9)=>match nz sh ea ic.aI bu.toList fE&&(a.fJ&&b.fJ) with
      | true=>sh.pw (s.cC b9) λA=>ag (ic.pre x) (aq (kl (λA y=>xe sh rin ea ic.aI bu.toList A y λs1=>
       fW aP T bs Psi a (bet:=dS×ea.al) assign s1 (Lb λs2=>fW aP T bs Psi b body s2 λe e4=>ea.pw e4 λbk=>mpure (e,bk))) (ic.seq x) A) λp=>Ra k p.1 (sh.ad p.2))
      | false=>dZ
     | none=>dZ
    | _=>dZ
   | .val (.cE aI) S=>match nz sh ea aI bu.toList fE&&(a.fJ&&b.fJ) with
    | true=>sh.pw s λA=>aq (mM S) λab=>aq (kl (λA y=>xe sh rin ea aI bu.toList A y λs1=>
     fW aP T bs Psi a (bet:=dS×ea.al) assign s1 (Lb λs2=>fW aP T bs Psi b body s2 λe e4=>ea.pw e4 λbk=>mpure (e,bk))) ab A) λp=>Ra k p.1 (sh.ad p.2)
    | false=>dZ
   | _=>dZ
  | _=>dZ
 | .La,_,c,s,k=>match c with
  | .region _ ops draw=>match draw&&Q9 ops with
   | true=>Di aP T (KS bs Psi) Psi (nx ops.toList).toArray s (k .normal)
   | false=>dZ
  | _=>dZ
 | .fg,_,c,s,k=>match c with
  | .region _ ops draw=>match draw with
   | true=>Di aP T (KS bs Psi) Psi ops s (k .normal)
   | false=>oR aP T bs Psi ops ops.toList [] s (k .normal)
  | .skip=>k .normal s
  | .label _=>k .normal s
  | .exit id=>k (.exit id) s
  | .ret=>k .ret s
  | _=>dZ
def nA(bV:Nat):Code->Bool
 | .region _ ops _=>ops.toList.all λo=>mU o bV
 | .seq a b=>nA bV a&&nA bV b
 | .cond _ a b=>nA bV a&&nA bV b
 | .block _ a=>nA bV a
 | .loop a=>nA bV a
 | .scope a=>nA bV a
 | .rangeFunc _ bu a b=>bu.toList.all (λp=>decide (p<bV))&&(nA bV a&&nA bV b)
 | .skip=>true
 | .label _=>true
 | .exit _=>true
 | .ret=>true
 | _=>false
def oS(x y:b8):Prop:=(y.hl=true->x.hl=true)/\(y.gS=true->x.gS=true/\y.len=x.len/\y.gJ=x.gJ)/\(y.iX=true->x.iX=true)/\(y.qK=true->x.qK=true)/\∀ k,y.cd k=true->x.cd k=true
theorem oS.refl(x:b8):oS x x:=⟨id,λh=>⟨h,rfl,rfl⟩,id,id,λ_=>id⟩
theorem oS.ey(x:b8):oS x .ey:=⟨λh=>(by cases h),λh=>(by cases h),λh=>(by cases h),λh=>(by cases h),λ_ h=>(by cases h)⟩
def uk(f:Nat->Nat)(H H':Nat->b7):Prop:=∀ b,(H' b).gen=0/\oS (H (f b)).body (H' b).body
section
variable {P:Program} {H H':Nat->b7} {kap:Nat->bI} {F F':Nat->Prop} {w:World} {f:Nat->Nat}
variable {b:Nat}{v:Value}
theorem Z1(aD:uk f H H')(h:bJ P H kap F w (.eY (f b) (H (f b)).gen off) v):bJ P H' (λb=>kap (f b)) F' w (.eY b 0 off) v:=
 ⟨⟨aPK _,h.1.2⟩,λ_ hc=>h.2 rfl ((aD b).2.1 hc)⟩
def Rb(P:Program)(H H':Nat->b7)(kap:Nat->bI)(f:Nat->Nat)(F F':Nat->Prop)(w:World)(r:Option (R×List Nat))(l:List Nat)(av AZ:aL)(y:R):Prop:=
 ∃ m,r=some (y,m)/\(∀ b∈m,b∈l)/\(kR H kap F' l->∀ v,bJ P H kap F w av v->bJ P H' (λb=>kap (f b)) F' w AZ v)
variable {l:List Nat}
theorem Rb.ix{r:Option (R×List Nat)}{av AZ:aL}{y:R}(h:r=some (y,l))(k:∀ v,bJ P H kap F w av v->bJ P H' (λb=>kap (f b)) F' w AZ v):Rb P H H' kap f F F' w r l av AZ y:=
 ⟨l,h,λ_ U=>U,λ_=>k⟩
theorem lj{b:Bool}{r:Option af}{x:af}(h:xd b r=some x):b=true/\r=some x:=by
 cases b with
 | true=>exact⟨rfl,h⟩
 | false=>cases h
variable {t:V}
theorem sR{av:aL}{r:Option (R×List Nat)}{z:t.al×R}(h:AO H t av r=some (z,l)):∃ fx m,(eh t av).run H=some (z.1,fx)/\r=some (z.2,m)/\l=fx++m:=by
 grind [AO]
theorem Rc{av:aL}{r:Option (R×List Nat)}{z:t.al×R}(h:QG t av r=some (z,l)):av=.eL t z.1/\r=some (z.2,l):=by
 unfold QG at h;grind
theorem Re{av:aL}{r:Option (R×List Nat)}{z:(z24')×R}(h:QH H b av r=some (z,l)) :
  r=some (z.2,l)/\(av=.sub b (H b).gen z.1.1 z.1.2\/(av=.own b (H b).gen/\(H b).body.gS=true/\z.1=(0,(H b).body.len))):=by
 unfold QH at h;grind
theorem Lc{aI:V}{av:aL}{r:Option (R×List Nat)}{z:(Nat×(List aI.al->Prop)×List aI.al×Bool)×R}(h:QI aI av r=some (z,l)) :
  r=some (z.2,l)/\av=.aR z.1.1 aI z.1.2.1 z.1.2.2.1 z.1.2.2.2:=by
 unfold QI at h;grind
theorem Rf{av:aL}{r:Option (R×List Nat)}{z:Nat×R}(h:QK H b av r=some (z,l)):r=some (z.2,l)/\av=.kQ b (H b).gen z.1:=by
 unfold QK at h;grind
theorem Rg{av:aL}{r:Option (R×List Nat)}{z:Nat×R}(h:QJ av r=some (z,l)):r=some (z.2,l)/\av=.il z.1:=by
 unfold QJ at h;grind
theorem Z2{av:aL}(h:KJ H b off av=true):av=.eY b (H b).gen off:=by
 unfold KJ at h;grind
theorem Z3{av:aL}(h:KK H b av=true):av=.own b (H b).gen:=by
 unfold KK at h;grind
theorem apw{av:aL}(h:QL H b av=true):av=.hk b (H b).gen:=by
 unfold QL at h;grind
theorem apx{av:aL}(h:QM H b av=true):av=.l2 b (H b).gen:=by
 unfold QM at h;grind
theorem apy(aD:uk f H H'){av:aL}(h:QN H (f b) av=true)(ae:bJ P H kap F w av v):bJ P H' (λb=>kap (f b)) F' w (.hP b 0) v:=by
 unfold QN at h;split at h
 ·simp  at h;obtain⟨rfl,rfl⟩:=h;exact⟨⟨aPK _,ae.1.2⟩,λ_ hc=>.inr (ae.2 rfl ((aD b).2.1 hc))⟩
 ·simp  at h;obtain⟨rfl,rfl⟩:=h;exact⟨⟨aPK _,ae.1.2⟩,λ_ hc=>ae.2 rfl ((aD b).2.1 hc)⟩
 ·have ao:=((eb rfl).1 ae).2;rcases ao with⟨e,_⟩ | ⟨p,y,bB,_,e,_⟩
  ·have e:=(aPM e).1;subst e;exact⟨⟨aPK _,rfl⟩,λ_ _=>.inl rfl⟩
  grind
 ·subst ae;exact⟨⟨aPK _,rfl⟩,λ_ _=>.inl rfl⟩
 grind
theorem apz{av:aL}(h:QO av=true):av=.dW:=by
 grind [QO]
theorem apA(aD:uk f H H'){k:FuncId}{hF:z9'}{av:aL}(h:QP H f k hF av=true)(ae:bJ P H kap F w av v):bJ P H' (λb=>kap (f b)) F' w (.ji k hF.length (yA du hF)) v:=by
 unfold QP at h;split at h
 ·simp only[amn,beq_iff_eq]at h;obtain⟨⟨rfl,rfl⟩,e⟩:=h;obtain⟨aH,E,L,ak⟩:=ae;refine⟨aH,E,L,λi G=>?_⟩;have he:=List.all_eq_true.1 e i (by grind);have ae:=ak i G;rw[show hF[i]?=some hF[i] by simp]at he;rw[Z2 he]at ae;have:yA du hF i=.eY hF[i].1 0 hF[i].2:=by simp_all[yA,hX,du]
  grind [Z1]
 grind
theorem apB(aD:uk f H H'){dz:List Nat}{av:aL}(h:QQ H f dz av=true)(ae:bJ P H kap F w av v):bJ P H' (λb=>kap (f b)) F' w (.agg dz.length (yB du dz)) v:=by
 unfold QQ at h;split at h
 ·simp only[amn,beq_iff_eq]at h;obtain⟨rfl,e⟩:=h;obtain⟨aH,E,L,ak⟩:=ae;refine⟨aH,E,L,λi G=>?_⟩;have he:=List.all_eq_true.1 e i (by grind);obtain⟨ae,hc⟩:=ak i G;refine⟨?_,hc⟩;rw[show dz[i]?=some dz[i] by simp]at he;rw[Z3 he]at ae;have:yB du dz i=.own dz[i] 0:=by simp_all[yB,hX,du]
  rw[this];refine⟨⟨aPK _,ae.1.2⟩,λ_ hc=>?_⟩;obtain⟨aM,aS,_⟩:=(aD dz[i]).2.2.1 hc;rw[aS];exact ae.2 rfl aM
 grind
theorem A0(aX:∀ b,c7 P H kap F w b)(bm:∀ r,F r->F' r)(aD:uk f H H')(t:cc){av:aL}{r:Option (R×List Nat)}{z:t.cons R}(h:t.kT H f av r=some (z,l)) :
  Rb P H H' kap f F F' w r l av (t.av du z).1 (t.av du z).2:=by
 cases t with
 | undef=>exact .ix h λ_ _=>by simp  [cc.av,bJ]
 | val t=>
  obtain⟨fx,m,ao,rfl,rfl⟩:=sR h;exact⟨m,rfl,λb U=>aP7 _ U,λah v ae=>oK aX bm ao ah.left ae⟩
 | eL t=>
  obtain⟨rfl,rfl⟩:=Rc h;exact .ix rfl λv ⟨p,bB,E,L,ak⟩=>⟨p,bB,E,L.mono bm (di.refl _ _),fK _ bm (di.refl _ _) ak⟩
 | eY b off=>
  obtain⟨E,L⟩:=lj h;obtain rfl:=Z2 E;exact .ix L λv ae=>Z1 aD ae
 | own b=>
  obtain⟨E,L⟩:=lj h;obtain rfl:=Z3 E;refine .ix L λv ae=>⟨⟨aPK _,ae.1.2⟩,λ_ hc=>?_⟩
  obtain⟨aM,aS,_⟩:=(aD b).2.2.1 hc;simp  [du];rw[aS];exact ae.2 rfl aM
 | sub b=>
  obtain⟨E,L⟩:=Re h;refine .ix E λv ae=>?_;rcases L with rfl | ⟨rfl,ga,ak⟩
  ·refine⟨⟨aPK _,ae.1.2⟩,λ_ hc=>?_⟩;obtain⟨aM,aS,b4⟩:=(aD b).2.2.1 hc;simp  [du]at aS b4 ⊢;rw[aS,b4];exact ae.2 rfl aM
  ·refine⟨⟨aPK _,ae.1.2⟩,λ_ hc=>?_⟩;obtain⟨aM,aS,b4⟩:=(aD b).2.2.1 hc;have:=ae.2 rfl aM;simp  [du]at aS b4 ⊢;rw[aS,ak];refine⟨⟨aPK _,amo _⟩,?_⟩;rw[this];unfold bI.slice;cases aA:(kap (f b)).fT with
   | true=>exact .inl ⟨aA,rfl⟩
   | false=>exact .inr ⟨aA,(kap (f b)).off,by simp,by simp,λ_=>by simp⟩
 | hk b=>
  obtain⟨E,L⟩:=lj h;obtain rfl:=apw E;exact .ix L λv ae=>⟨⟨aPK _,ae.1.2⟩,λ_ hc=>ae.2 rfl ((aD b).2.2.2.1 hc)⟩
 | l2 b=>
  obtain⟨E,L⟩:=lj h;obtain rfl:=apx E;exact .ix L λv ae=>⟨⟨aPK _,ae.1.2⟩,λ_ hc=>ae.2 rfl ((aD b).2.2.2.2.1 hc)⟩
 | dW=>
  obtain⟨E,L⟩:=lj h;obtain rfl:=apz E;exact .ix L λv ae=>ae
 | ji k hF=>
  obtain⟨E,L⟩:=lj h;exact .ix L λv ae=>apA aD E ae
 | fG dz=>
  obtain⟨E,L⟩:=lj h;exact .ix L λv ae=>apB aD E ae
 | hP b=>
  obtain⟨E,L⟩:=lj h;exact .ix L λv ae=>apy aD E ae
 | kQ b=>
  obtain⟨E,rfl⟩:=Rf h;refine .ix E λv ae=>⟨⟨aPK _,ae.1.2⟩,λ_ hc=>?_⟩
  obtain⟨aM,aS,b4⟩:=(aD b).2.2.1 hc;have:=ae.2 rfl aM;grind [du]
 | aR aI=>
  obtain⟨E,rfl⟩:=Lc h;exact .ix E λv ae=>ae
 | il=>
  obtain⟨E,rfl⟩:=Rg h;exact .ix E λv ae=>ae
theorem apC(aX:∀ b,c7 P H kap F w b)(bm:∀ r,F r->F' r)(aD:uk f H H'):∀ (ts:List cc) {c:Nat->aL} {i:Nat} {R:Type} {r:Option (R×List Nat)} {z:sO ts R} {l:List Nat},Da H f ts c i r=some (z,l)->
  ∃ m,r=some ((rG du ts z).2,m)/\(∀ b∈m,b∈l)/\(kR H kap F' l->∀ j,j<ts.length->∀ v,bJ P H kap F w (c (i+j)) v->bJ P H' (λb=>kap (f b)) F' w ((rG du ts z).1.getD j .undef) v):=by
 intro ts;induction ts with
 | nil=>intro c i R r z l h;exact⟨l,h,λ_ U=>U,λ_ j aJ=>by grind⟩
 | cons t ts aO=>
  intro c i R r z l h;obtain⟨m1,E,L,ak⟩:=A0     aX bm aD t h;obtain⟨m2,aM,aS,hZ⟩:=aO E;refine⟨m2,aM,λb U=>L b (aS b U),λah j aJ v ae=>?_⟩;cases j with
  | zero=>exact ak ah v ae
  | succ j=>
   have:=hZ (λb U=>ah b (L b U)) j (by grind) v (by grind);grind [rG]
theorem apD(aX:∀ b,c7 P H kap F w b)(bm:∀ r,F r->F' r)(aD:uk f H H'):∀ (ts:List (Nat×cc)) {c:Nat->aL} {R:Type} {r:Option (R×List Nat)} {z:qX ts R} {l:List Nat},Dc H f ts c r=some (z,l)->
  ∃ m,r=some ((eU du ts z).2,m)/\(∀ b∈m,b∈l)/\(kR H kap F' l->∀ i v,bJ P H kap F w (c i) v->bJ P H' (λb=>kap (f b)) F' w (fi (eU du ts z).1 i) v):=by
 intro ts;induction ts with
 | nil=>intro c R r z l h;exact⟨l,h,λ_ U=>U,λ_ _ _ _=>by grind [eU,fi,bJ]⟩
 | cons p ts aO=>
  intro c R r z l h;obtain⟨m1,E,L,ak⟩:=A0     aX bm aD p.2 h;obtain⟨m2,aM,aS,hZ⟩:=aO E;refine⟨m2,aM,λb U=>L b (aS b U),λah i v ae=>?_⟩;simp  [eU,fi];split
  ·grind
  ·exact hZ (λb U=>ah b (L b U)) i v ae
theorem Ld(t:cc){av:aL}{r:Option (R×List Nat)}{z:t.cons R}(h:t.kT H f av r=some (z,l)):∃ m,r=some ((t.av du z).2,m)/\∀ b∈m,b∈l:=by
 cases t with
 | undef=>exact⟨l,h,λ_ h=>h⟩
 | val t=>obtain⟨_,m,_,L,ak⟩:=sR h;exact⟨m,L,λb U=>ak ▸ aP7 _ U⟩
 | eL t=>exact⟨l,(Rc h).2,λ_ h=>h⟩
 | sub b=>exact⟨l,(Re h).1,λ_ h=>h⟩
 | aR aI=>exact⟨l,(Lc h).1,λ_ h=>h⟩
 | il=>exact⟨l,(Rg h).1,λ_ h=>h⟩
 | kQ b=>exact⟨l,(Rf h).1,λ_ h=>h⟩
 | hP b=>exact⟨l,(lj h).2,λ_ h=>h⟩
 | eY b off=>exact⟨l,(lj h).2,λ_ h=>h⟩
 | own b=>exact⟨l,(lj h).2,λ_ h=>h⟩
 | hk b=>exact⟨l,(lj h).2,λ_ h=>h⟩
 | l2 b=>exact⟨l,(lj h).2,λ_ h=>h⟩
 | dW=>exact⟨l,(lj h).2,λ_ h=>h⟩
 | ji k hF=>exact⟨l,(lj h).2,λ_ h=>h⟩
 | fG dz=>exact⟨l,(lj h).2,λ_ h=>h⟩
theorem apE:∀ (ts:List cc) {c:Nat->aL} {i:Nat} {R:Type} {r:Option (R×List Nat)} {z:sO ts R} {l:List Nat},Da H f ts c i r=some (z,l)->∃ m,r=some ((rG du ts z).2,m)/\∀ b∈m,b∈l:=by
 intro ts;induction ts with
 | nil=>intro c i R r z l h;exact⟨l,h,λ_ h=>h⟩
 | cons t ts aO=>
  intro c i R r z l h;obtain⟨m,E,L⟩:=Ld t h;obtain⟨dp,ak,aZ⟩:=aO E;exact⟨dp,ak,λb U=>L b (aZ b U)⟩
theorem apF:∀ (ts:List (Nat×cc)) {c:Nat->aL} {R:Type} {r:Option (R×List Nat)} {z:qX ts R} {l:List Nat},Dc H f ts c r=some (z,l)->∃ m,r=some ((eU du ts z).2,m)/\∀ b∈m,b∈l:=by
 intro ts;induction ts with
 | nil=>intro c R r z l h;exact⟨l,h,λ_ h=>h⟩
 | cons p ts aO=>
  intro c R r z l h;obtain⟨m,E,L⟩:=Ld p.2 h;obtain⟨dp,ak,aZ⟩:=aO E;exact⟨dp,ak,λb U=>L b (aZ b U)⟩
theorem GM(t:cc){av:aL}{r:Option (R×List Nat)}{z:t.cons R}(h:t.kT H f av r=some (z,l))(D:∀ y m,r=some (y,m)->iK H m):iK H l:=by
 cases t with
 | undef=>exact D _ _ h
 | val t=>obtain⟨_,m,E,L,rfl⟩:=sR h;exact (pn E).append (D _ _ L)
 | eL t=>exact D _ _ (Rc h).2
 | sub b=>exact D _ _ (Re h).1
 | aR aI=>exact D _ _ (Lc h).1
 | il=>exact D _ _ (Rg h).1
 | kQ b=>exact D _ _ (Rf h).1
 | hP b=>exact D _ _ (lj h).2
 | eY b off=>exact D _ _ (lj h).2
 | own b=>exact D _ _ (lj h).2
 | hk b=>exact D _ _ (lj h).2
 | l2 b=>exact D _ _ (lj h).2
 | dW=>exact D _ _ (lj h).2
 | ji k hF=>exact D _ _ (lj h).2
 | fG dz=>exact D _ _ (lj h).2
theorem apG:∀ (ts:List cc) {c:Nat->aL} {i:Nat} {R:Type} {r:Option (R×List Nat)} {z:sO ts R} {l:List Nat},Da H f ts c i r=some (z,l)->(∀ y m,r=some (y,m)->iK H m)->iK H l:=by
 intro ts;induction ts with
 | nil=>intro c i R r z l h D;exact D _ _ h
 | cons t ts aO=>intro c i R r z l h D;exact GM t h λy m hm=>aO hm D
theorem apH:∀ (ts:List (Nat×cc)) {c:Nat->aL} {R:Type} {r:Option (R×List Nat)} {z:qX ts R} {l:List Nat},Dc H f ts c r=some (z,l)->(∀ y m,r=some (y,m)->iK H m)->iK H l:=by
 intro ts;induction ts with
 | nil=>intro c R r z l h D;exact D _ _ h
 | cons p ts aO=>intro c R r z l h D;exact GM p.2 h λy m hm=>aO hm D
variable {km:b8}
theorem Rh{ts:List cc}{r:Option (R×List Nat)}{z:sO ts R}(h:QR H f t ts km r=some (z,l)):∃ c,km=.cells t c/\t.size=ts.length/\Da H f ts c 0 r=some (z,l):=by
 unfold QR at h;grind
variable {e:V}
theorem Ri{r:Option (R×List Nat)}{z:List e.al×R}(h:QS e km r=some (z,l)):r=some (z.2,l)/\km=.bl e z.1:=by
 unfold QS at h;grind
theorem Rj{r:Option (R×List Nat)}{z:List (Nat×List e.al)×R}(h:QW e km r=some (z,l)):r=some (z.2,l)/\(km=.bQ e z.1\/(km=.ey/\z.1=[])):=by
 unfold QW at h;grind
theorem oS.bQ(x:b8)(e:V)(m:List (Nat×List e.al)):oS x (.bQ e m):=⟨λh=>(by cases h),λh=>(by cases h),λh=>(by cases h),λh=>(by cases h),λ_ h=>(by cases h)⟩
theorem Rk{t:cc}{r:Option (R×List Nat)}{z:(List e.al×Nat)×t.cons R}(h:QV H f e t km r=some (z,l)):∃ v,km=.h7 e z.1.1 z.1.2 v/\t.kT H f v r=some (z.2,l):=by
 unfold QV at h;grind
variable {v:V}{k:V}
theorem Rl{r:Option (R×List Nat)}{z:List (k.al×v.al)×R}(h:QT k v km r=some (z,l)):r=some (z.2,l)/\km=.mp k v z.1:=by
 unfold QT at h;grind
theorem Rm{r:Option (R×List Nat)}{z:(Option (k.al×v.al)×List (k.al×v.al))×R}(h:QU k v km r=some (z,l)):r=some (z.2,l)/\km=.cE k v z.1.1 z.1.2:=by
 unfold QU at h;grind
theorem Rn{r:Option (R×List Nat)}{z:t.al×R}(h:QX H t km r=some (z,l)):∃ c,km=.cells t c/\AO H t (.agg t.size c) r=some (z,l):=by
 unfold QX at h;grind
theorem Ro{r:Option (R×List Nat)}{z:t.al×R}(h:QY H t b r=some (z,l)):∃ fx m,(eh (.bM t) (.eY b (H b).gen 0)).run H=some (some z.1,fx)/\r=some (z.2,m)/\l=fx++m:=by
 unfold QY at h;split at h<;>grind
theorem Z4{xs:List e.al}(h:(eh (.slice e) (.own b (H b).gen)).run H=some (xs,l)):(H b).body=.bl e xs\/(H b).body=.jz e xs:=by
 simp  [eh,l4,V.fY,eK]at h;split at h
 ·simp  at h;grind [mN]
 ·simp  at h;grind [mN]
 grind
theorem apI{xs:List (k.al×v.al)}(h:(eh (.map k v) (.hk b (H b).gen)).run H=some (xs,l)):(H b).body=.mp k v xs\/(H b).body=.k5 k v xs:=by
 simp  [eh,l4,V.fY,eK]at h;split at h
 ·simp  at h;grind [mN]
 ·simp  at h;grind [mN]
 grind
theorem apJ{x:Option t.al}(h:(eh (.bM t) (.eY b (H b).gen 0)).run H=some (x,l)):(H b).body.hl=true:=by
 simp  [eh,l4,wS]at h;split at h
 ·rename_i U;rw[U];rfl
 ·rename_i U;rw[U];rfl
 ·cases h
theorem b'.Rp(t:b'){r:Option (R×List Nat)}{z:t.cons R}(h:t.kT H f b r=some (z,l)) :
  (∃ m,r=some ((t.body du z).2,m)/\∀ c∈m,c∈l)/\oS (H b).body (t.body du z).1/\∀ k,(t.body du z).1.cd k=true->t.GB=true:=by
 cases t with
 | cells t ts=>
  obtain⟨c,e,ay,h⟩:=Rh h;refine⟨apE ts h,?_,λ_ _=>rfl⟩;rw[e];exact⟨λ_=>rfl,λh=>(by cases h),λh=>(by cases h),λh=>(by cases h),λ_ _=>rfl⟩
 | bl e=>
  obtain⟨E,L⟩:=Ri h;refine⟨⟨l,E,λ_ h=>h⟩,?_,λ_ _=>rfl⟩;rw[L];exact oS.refl _
 | jz e=>
  obtain⟨fx,m,E,L,rfl⟩:=sR h;refine⟨⟨m,L,λ_ h=>aP7 _ h⟩,?_,λ_ h=>(by cases h)⟩;rcases Z4 E with e | e<;>rw[e]
  ·exact⟨λh=>(by cases h),λ_=>⟨rfl,rfl,rfl⟩,λh=>(by cases h),λh=>(by cases h),λ_ h=>(by cases h)⟩
  ·exact oS.refl _
 | mp k v=>
  obtain⟨E,L⟩:=Rl h;refine⟨⟨l,E,λ_ h=>h⟩,?_,λ_ _=>rfl⟩;rw[L];exact oS.refl _
 | k5 k v=>
  obtain⟨fx,m,E,L,rfl⟩:=sR h;refine⟨⟨m,L,λ_ h=>aP7 _ h⟩,?_,λ_ h=>(by cases h)⟩;rcases apI E with e | e<;>rw[e]
  ·exact⟨λh=>(by cases h),λh=>(by cases h),λ_=>rfl,λh=>(by cases h),λ_ h=>(by rfl)⟩
  ·exact oS.refl _
 | gx t=>
  obtain⟨c,e,h⟩:=Rn h;obtain⟨fx,m,E,L,rfl⟩:=sR h;refine⟨⟨m,L,λ_ h=>aP7 _ h⟩,?_,λ_ _=>rfl⟩;rw[e];exact⟨λ_=>rfl,λh=>(by cases h),λh=>(by cases h),λh=>(by cases h),λ_ _=>rfl⟩
 | im t=>
  obtain⟨fx,m,E,L,rfl⟩:=Ro h;refine⟨⟨m,L,λ_ h=>aP7 _ h⟩,?_,λ_ h=>(by cases h)⟩;exact⟨λ_=>apJ E,λh=>(by cases h),λh=>(by cases h),λh=>(by cases h),λ_ h=>(by cases h)⟩
 | cE k v=>
  obtain⟨E,L⟩:=Rm h;refine⟨⟨l,E,λ_ h=>h⟩,?_,λ_ _=>rfl⟩;rw[L];exact oS.refl _
 | bQ e=>
  obtain⟨E,L⟩:=Rj h;exact⟨⟨l,E,λ_ h=>h⟩,oS.bQ _ _ _,λ_ h=>(by cases h)⟩
 | h7 e t=>
  obtain⟨v,aB,h⟩:=Rk h;refine⟨Ld t h,?_,λ_ _=>rfl⟩;rw[aB];exact⟨λh=>(by cases h),λ_=>⟨rfl,rfl,rfl⟩,λh=>(by cases h),λh=>(by cases h),λ_ h=>h⟩
theorem b'.GM(t:b'){b:Nat}{R:Type}{r:Option (R×List Nat)}{z:t.cons R}{l:List Nat}(h:t.kT H f b r=some (z,l))(D:∀ y m,r=some (y,m)->iK H m):iK H l:=by
 cases t with
 | cells t ts=>obtain⟨c,e,ay,h⟩:=Rh h;grind [apG]
 | bl e=>exact D _ _ (Ri h).1
 | jz e=>obtain⟨fx,m,E,L,rfl⟩:=sR h;exact (pn E).append (D _ _ L)
 | mp k v=>exact D _ _ (Rl h).1
 | k5 k v=>obtain⟨fx,m,E,L,rfl⟩:=sR h;exact (pn E).append (D _ _ L)
 | gx t=>obtain⟨c,e,h⟩:=Rn h;obtain⟨fx,m,E,L,rfl⟩:=sR h;exact (pn E).append (D _ _ L)
 | im t=>obtain⟨fx,m,E,L,rfl⟩:=Ro h;exact (pn E).append (D _ _ L)
 | cE k v=>exact D _ _ (Rm h).1
 | h7 e t=>obtain⟨v,_,h⟩:=Rk h;grind [Go.Fer.GM]
 | bQ e=>exact D _ _ (Rj h).1
theorem b'.apK(aX:∀ b,c7 P H kap F w b)(bm:∀ r,F r->F' r)(aD:uk f H H')(t:b'){r:Option (R×List Nat)}{z:t.cons R}(h:t.kT H f b r=some (z,l))(ah:kR H kap F' l) :
  mu P H' (λb=>kap (f b)) F' w (kap b) (t.body du z).1:=by
 have U:=aX b;unfold c7 at U;cases t with
 | cells t ts=>
  obtain⟨c,e,ay,h⟩:=Rh h;rw[e]at U;obtain⟨cs,T,aM,aS,b4⟩:=U;obtain⟨m,_,_,hZ⟩:=apC   aX bm aD ts h;refine⟨cs,T,aM,aS,λi G=>⟨?_,(b4 i G).2⟩⟩;have:=hZ ah i (by omega) _ (by rw[aQs];exact (b4 i G).1);exact this
 | bl e=>
  rw[(Ri h).2]at U;refine⟨U.1,λaA=>?_⟩;obtain⟨cs,T,E,L,ak,aZ,bP⟩:=U.2 aA;exact⟨cs,T,E,L,ak,aZ,bP.mono bm (di.refl _ _)⟩
 | jz e=>
  obtain⟨fx,m,E,L,rfl⟩:=sR h;have yq:=Z4 E;have A1:=oK   aX bm E ah.left ⟨⟨amo _,by unfold bI.slice;split<;>rfl⟩,λ_ _=>rfl⟩;have:=((eb rfl).1 A1).2;rcases yq with aY | aY<;>(rw[aY]at this;exact this)
 | mp k v=>
  rw[(Rl h).2]at U;obtain⟨ms,clk,E,L⟩:=U;exact⟨ms,clk,E,L.mono bm (di.refl _ _)⟩
 | k5 k v=>
  obtain⟨fx,m,E,L,rfl⟩:=sR h;have A1:=oK   aX bm E ah.left ⟨⟨amo _,rfl⟩,λ_ _=>rfl⟩;exact ((eb rfl).1 A1).2
 | gx t=>
  obtain⟨c,e,h⟩:=Rn h;rw[e]at U;obtain⟨cs,T,aM,aS,b4⟩:=U;obtain⟨fx,m,ao,_,rfl⟩:=sR h;have ae:bJ P H kap F w (.agg t.size c) (.agg cs):=⟨cs.toList,by simp,by grind,λj aJ=>by
   simp_all⟩
  have A1:=oK   aX bm ao ah.left ae;have ka:=CG   (H:=H') (kap:=λb=>kap (f b)) t A1.2;refine⟨cs,T,aM,aS,λi G=>⟨?_,(b4 i G).2⟩⟩;have:=(ka.mO i (by rw[ka.len];grind [Value.cells])).1;simp_all[Value.cells]
 | im t=>
  obtain⟨fx,m,E,L,rfl⟩:=Ro h;have A1:=oK   aX bm E ah.left ⟨⟨amo _,rfl⟩,λ_ _=>rfl⟩;rcases ((eb rfl).1 A1).2 with⟨_,e⟩ | ⟨p,y,bB,aB,bt,ak,aZ⟩
  ·grind
  ·simp  at aB;subst aB;cases bt;exact⟨bB,ak,aZ⟩
 | cE k v=>
  rw[(Rm h).2]at U;exact Aa.mono U bm (di.refl _ _) rfl
 | bQ e=>trivial
 | h7 e t=>
  obtain⟨v,aB,h⟩:=Rk h;rw[aB]at U;obtain⟨aV,cs,T,E,L,ak,aZ,bP,ej,iW,kP⟩:=U;obtain⟨m,_,_,hZ⟩:=A0     aX bm aD t h;refine⟨aV,cs,T,E,L,ak,aZ,bP,λj aJ wQ=>?_,hZ ah _ iW,kP⟩;obtain⟨bB,d1,d2⟩:=ej j aJ wQ;exact⟨bB,d1,fK e bm (di.refl _ _) d2⟩
theorem apL:∀ (l:List (Nat×b')) {x:pv l} {m:List Nat},Db H f l=some (x,m)->∀ b,eQ (gY du l x) b=⟨0,.ey⟩\/
  ∃ km,eQ (gY du l x) b=⟨0,km⟩/\oS (H (f b)).body km/\∃ t,(b,t)∈l/\∀ k,km.cd k=true->t.GB=true:=by
 intro l;induction l with
 | nil=>intro x m _ b;exact .inl rfl
 | cons q l aO=>
  intro x m h b;obtain⟨cO,cJ⟩:=q;obtain⟨⟨dp,E,L⟩,ak,aZ⟩:=b'.Rp cJ h;grind [gY,eQ]
theorem apM:∀ (l:List (Nat×b')) {x:pv l} {m:List Nat},Db H f l=some (x,m)->∀ b e p,(eQ (gY du l x) b).body=.bQ e p->(H (f b)).body=.bQ e p\/p=[]:=by
 intro l;induction l with
 | nil=>intro x m _ b e p h;cases h
 | cons q l aO=>
  intro x m h b e p U;obtain⟨cO,cJ⟩:=q;obtain⟨⟨dp,E,L⟩,ak,aZ⟩:=b'.Rp cJ h;by_cases k:b=cO
  ·subst k;simp  [gY,eQ]at U;cases cJ with
   | bQ aY=>
    obtain⟨_,ej⟩:=Rj h;have U:b8.bQ aY x.1=.bQ e p:=U;grind
   | _=>cases U
  grind [gY,eQ]
theorem apN:∀ (l:List (Nat×b')) {x:pv l} {m:List Nat},Db H f l=some (x,m)->iK H m:=by
 intro l;induction l with
 | nil=>intro x m h;cases h;exact .nil H
 | cons q l aO=>intro x m h;exact b'.GM q.2 h λy m hm=>aO hm
theorem apO(aX:∀ b,c7 P H kap F w b)(bm:∀ r,F r->F' r)(aD:uk f H H'):∀ (l:List (Nat×b')) {x:pv l} {m:List Nat},Db H f l=some (x,m)->kR H kap F' m->∀ b,mu P H' (λb=>kap (f b)) F' w (kap (f b)) (eQ (gY du l x) b).body:=by
 intro l;induction l with
 | nil=>intro x m _ _ b;trivial
 | cons q l aO=>
  intro x m h hm b;obtain⟨cO,cJ⟩:=q;obtain⟨⟨dp,E,L⟩,_⟩:=b'.Rp cJ h;by_cases e:b=cO
  ·subst e;simp  [gY,eQ];exact b'.apK aX bm aD cJ h hm
  ·have:=aO E (λc hc=>hm c (L c hc)) b;grind [gY,eQ]
theorem apP:∀ (ts:List (Nat×cc)) {c:Nat->aL} {R:Type} {r:Option (R×List Nat)} {z:qX ts R} {l:List Nat},Dc H f ts c r=some (z,l)->∀ {i et aI ab n ad},fi (eU du ts z).1 i=.aR et aI ab n ad->c i=.aR et aI ab n ad:=by
 intro ts;induction ts with
 | nil=>intro c R r z l _ i et aI ab n ad e;cases e
 | cons p ts aO=>
  intro c R r z l h i et aI ab n ad e;obtain⟨e8,t⟩:=p;obtain⟨m,E,_⟩:=Ld t h;simp  [eU,fi]at e;split at e
  ·rename_i GN;subst GN;cases t with
   | aR mX=>
    obtain⟨_,ak⟩:=Lc h;rw[ak];exact e
   | _=>cases e
  grind
end
structure Le(C:cF)(s:aC)(a:Act)(w:World)(kap:Nat->bI)(f:Nat->Nat)(F':Nat->Prop)(sh:eE)(A:sh.al)(b9:List Nat):Prop where
 bX:∀ i,bJ C.P (sh.ad A).aa (λb=>kap (f b)) F' w ((sh.ad A).az i) (a.tmps.getD i Go.undef)
 bC:∀ b,c7 C.P (sh.ad A).aa (λb=>kap (f b)) F' w b
 cd:∀ b,((sh.ad A).aa b).body.cd (kap (f b))=true->f b ∉ b9/\(s.aa (f b)).body.cd (kap (f b))=true/\b∈sh.rH
 Dk:uk f s.aa (sh.ad A).aa
 aR:∀ l aI ab n ad,(sh.ad A).az ca=.aR l aI ab n ad->s.az ca=.aR l aI ab n ad
 bQ:∀ b e m,((sh.ad A).aa b).body=.bQ e m->(s.aa (f b)).body=.bQ e m\/m=[]
variable {f:Nat->Nat}{a:Act}{w:World}{kap:Nat->bI}{F:Nat->Prop}
theorem eE.Z5{C:cF}{sh:eE}{A:sh.al}{b9:List Nat}(h:sh.Dd f s=some (A,b9))(D:bw C s a w kap F) :
  ∃ F',(∀ r,F r->F' r)/\bw C (s.cC b9) a w kap F'/\Le C s a w kap f F' sh A b9:=by
 unfold eE.Dd at h;split at h
 ·rename_i kF aLF ua;split at h
  ·cases h;obtain⟨m,E,hm⟩:=apF sh.bX ua;have kA:=apH sh.bX ua λy m hm=>apN sh.bC hm;obtain⟨F',f1,bj,f2⟩:=bw.mR kA D;have apQ:=apL sh.bC E;have xf:uk f s.aa (sh.ad A).aa:=by
    intro b;show (eQ (gY du sh.bC (eU du sh.bX A).2) b).gen=0/\oS (s.aa (f b)).body (eQ (gY du sh.bC (eU du sh.bX A).2) b).body;grind [oS.ey]
   obtain⟨m2,_,_,apR⟩:=apD     D.bC f1 xf sh.bX ua;refine⟨F',f1,bj,{ bX:=λi=>apR f2 i _ (D.bX i),bC:=λb=>?_,cd:=λb U=>?_,Dk:=xf,aR:=λl aI ab n ad e=>apP sh.bX ua e,bQ:=apM sh.bC E }⟩
   ·exact apO D.bC f1 xf sh.bC E (λc hc=>f2 c (hm c hc)) b
   ·have an:=(xf b).2.2.2.2.2 _ U;rcases apQ b with e | ⟨km,e,_,t,aG,aLG⟩
    ·have e:(sh.ad A).aa b=_:=e;rw[e]at U;cases U
    ·have e:(sh.ad A).aa b=_:=e;have ba:b∈sh.rH:=List.mem_filterMap.2 ⟨(b,t),aG,by grind⟩;grind
  grind
 grind
theorem Le.xg{C:cF}{F':Nat->Prop}{sh:eE}{A:sh.al}{b9:List Nat}(h:Le C s a w kap f F' sh A b9){b:Nat}(U:((sh.ad A).aa b).body.cd (kap (f b))=true) :
  ((s.cC b9).aa (f b)).body.cd (kap (f b))=true:=by
 obtain⟨E,L,_⟩:=h.cd b U;grind [aC.cC]
theorem Rq{C:cF}(D:bw C s a w kap F){b:Nat}{e:V} :
  bw C (s.cn b ⟨(s.aa b).gen+1,.bl e []⟩) a w (λi=>if i=b then ⟨0,0,0,true⟩ else kap i) F:=
 D.Ge (k:=⟨0,0,0,true⟩) (aQl _) (.inl rfl) (amo _) (λ_ _=>rfl) (λh=>by grind) (dM.refl _) λ_ _=>⟨λ_=>rfl,λh=>by grind⟩
theorem apS{C:cF}(D:bw C s a w kap F){b bf g':Nat}(ay:s.az i=.own bf g'):∃ bR,bw C (Q0 s i b bf g') a w bR F:=by
 unfold Q0;split
 ·rename_i e xs aw ch;obtain⟨eM,rfl⟩:=aP6 aw;generalize po:(λj=>if j=b then (⟨(s.aa b).gen+1,.bl e xs⟩) else if j=bf then ⟨(s.aa bf).gen+1,.ey⟩ else s.aa j)=H';generalize kG:(λj=>if j=b then kap bf else kap j)=bR;have E:H' b=⟨(s.aa b).gen+1,.bl e xs⟩:=by grind
  have L:H' bf=⟨(s.aa bf).gen+1,.ey⟩:=by grind
  have aM:bR b=kap bf:=by grind
  have b4:∀ j,j≠b->bR j=kap j:=λj k=>by grind
  have ah:fL s.aa kap H' bR:=by
   intro j;by_cases aB:j=b<;>grind
  have eJ:∀ j,(H' j).body.cd (bR j)=true->(j=b/\(s.aa bf).body.cd (kap bf)=true)\/(j≠b/\j≠bf/\(s.aa j).body.cd (kap j)=true):=λj aJ=>by
   by_cases aB:j=b
   ·grind
   ·by_cases bt:j=bf
    ·subst bt;rw[L]at aJ;cases aJ
    grind
  have h:=D.move         ah (λ_ h=>h) (λ_ h=>.inl h) (amo _) (λ_ _ _=>rfl) (dM.refl w)
   (λ_ j=>by
    by_cases aB:j=b
    ·subst aB;have aX:=D.bC bf;unfold c7 at aX ⊢;rw[ch]at aX;rw[E,aM];exact aX
    ·by_cases bt:j=bf
     ·subst bt;unfold c7;rw[L];trivial
     ·exact c7.k6 (D.bC j) ah (λ_ h=>h) (di.refl _ _) (by grind) (b4 j aB) λ_=>rfl)
   (λj aJ=>by
    rcases eJ j aJ with⟨rfl,h⟩ | ⟨aB,_,h⟩
    ·have:=D.own bf h;grind
    ·have:=D.own j h;grind)
   (λj mS aJ gD e=>by
    rcases eJ j aJ with⟨rfl,h⟩ | ⟨aB,bt,h⟩<;>rcases eJ mS gD with⟨rfl,eX⟩ | ⟨Z6,apT,eX⟩
    ·rfl
    ·rw[aM,b4 mS Z6]at e;exact absurd (D.inj bf mS h eX e).symm apT
    ·rw[aM,b4 j aB]at e;exact absurd (D.inj j bf h eX e) bt
    ·rw[b4 j aB,b4 mS Z6]at e;exact D.inj j mS h eX e)
   D.dr
   (λj _ aJ=>by
    by_cases aB:j=b
    ·subst aB;rw[E]at aJ;rcases aJ with aJ | aJ<;>cases aJ
    ·by_cases bt:j=bf
     ·subst bt;rw[L]at aJ;rcases aJ with aJ | aJ<;>cases aJ
     grind)
   (λaY m hm=>by
    grind)
  refine⟨bR,{ h with bX:=λj=>?_,dX:=h.dX,dj:=h.dj,bC:=h.bC,e7:=λl aI ab n ad aY=>?_,bQ:=λaY m hm=>⟨(h.bQ aY m hm).1,λid xs ao=>⟨λl aI ab n ad aG=>?_,((h.bQ aY m hm).2 id xs ao).2⟩⟩ }⟩
  ·show bJ C.P _ _ F w (if j=i then .own b ((s.aa b).gen+1) else s.az j) _;split
   ·rename_i e;subst e;have ae:=D.bX j;rw[ay]at ae;have jR:=ae.2 rfl (by rw[ch];rfl);exact⟨⟨by grind,ae.1.2⟩,λ_ _=>by grind⟩
   ·exact h.bX j
  ·have aY:(if ca=i then .own b ((s.aa b).gen+1) else s.az ca)=.aR l aI ab n ad:=aY;split at aY
   ·grind
   ·exact h.e7 l aI ab n ad aY
  ·have aY:(if ca=i then .own b ((s.aa b).gen+1) else s.az ca)=.aR l aI ab n ad:=aG;split at aY
   ·grind
   ·exact ((h.bQ _ m hm).2 id xs ao).1 l aI ab n ad aY
 grind
variable {dz:List (Nat×b')}
theorem apU{C:cF}(D:bw C s a w kap F)(i b:Nat):∃ bR,bw C (Q1 dz s i b) a w bR F:=by
 unfold Q1;split
 ·rename_i e ay _;have h:=Rq D (b:=b) (e:=e);refine⟨_,{ h with bX:=λj=>?_,dX:=h.dX,dj:=h.dj,bC:=h.bC,e7:=λl aI ab n ad aY=>?_,bQ:=λaY m hm=>⟨(h.bQ aY m hm).1,λid xs ao=>⟨λl aI ab n ad aG=>?_,((h.bQ aY m hm).2 id xs ao).2⟩⟩ }⟩
  ·show bJ C.P _ _ F w (if j=i then .own b ((s.aa b).gen+1) else s.az j) _;split
   ·rename_i e;subst e;have ae:=D.bX j;rw[ay]at ae;rw[ae];exact⟨⟨by simp[aC.cn],rfl⟩,λ_ _=>by simp[bI.slice]⟩
   ·exact h.bX j
  ·have aY:(if ca=i then .own b ((s.aa b).gen+1) else s.az ca)=.aR l aI ab n ad:=aY;split at aY
   ·grind
   ·exact h.e7 l aI ab n ad aY
  ·have aY:(if ca=i then .own b ((s.aa b).gen+1) else s.az ca)=.aR l aI ab n ad:=aG;split at aY
   ·grind
   ·exact ((h.bQ _ m hm).2 id xs ao).1 l aI ab n ad aY
 ·rename_i ay _;exact apS D ay
 grind
theorem apV{C:cF}(D:bw C s a w kap F)(c j b:Nat):∃ bR,bw C (Q2 dz s c j b) a w bR F:=by
 unfold Q2;split
 ·rename_i t f hc;split
  ·rename_i e ax aw _;have h:=Rq D (b:=b) (e:=e);have gK:(s.cn b ⟨(s.aa b).gen+1,.bl e []⟩).aa c=s.aa c:=by grind [aC.cn]
   have aX:=h.bC c;unfold c7 at aX;rw[gK,hc]at aX;obtain⟨cs,T,E,L,ak⟩:=aX;refine⟨_,h.qL       (by rw[gK,hc];rfl) rfl
    (pf (by grind) (λ_=>by rw[gK,hc];rfl) (λh=>by cases h) (λh=>by cases h) (λh=>by cases h)) (λ_=>by rw[gK,hc];rfl) (λh=>by cases h) (λ_ _=>rfl) rfl (dM.refl _) λH po ah _=>?_⟩
   refine⟨cs,T,E,L,λq bq=>⟨?_,(ak q bq).2⟩⟩;grind [bJ,aC.cn,bI.slice,bJ.later]
  grind
 grind
theorem apW{C:cF}(sh:eE)(D:bw C s a w kap F):∃ bR,bw C (sh.KO s) a w bR F:=by
 have E:∀ (l:List (Nat×cc)) (s:aC) (kap:Nat->bI),bw C s a w kap F->∃ bR,bw C (KL sh.bC l s) a w bR F:=by
  intro l;induction l with
  | nil=>intro s kap h;exact⟨kap,h⟩
  | cons p l aO=>
   intro s kap h;simp  [KL];split
   ·obtain⟨bR,eX⟩:=apU   h p.1 _;exact aO _ _ eX
   grind
 have L:∀ (c:Nat) (l:List cc) (j:Nat) (s:aC) (kap:Nat->bI),bw C s a w kap F->∃ bR,bw C (KM sh.bC c l j s) a w bR F:=by
  intro c l;induction l with
  | nil=>intro j s kap h;exact⟨kap,h⟩
  | cons t l aO=>
   intro j s kap h;simp  [KM];split
   ·obtain⟨bR,eX⟩:=apV   h c j _;exact aO _ _ _ eX
   ·exact aO _ _ _ h
 have ak:∀ (l:List (Nat×b')) (s:aC) (kap:Nat->bI),bw C s a w kap F->∃ bR,bw C (KN sh.bC l s) a w bR F:=by
  intro l;induction l with
  | nil=>intro s kap h;exact⟨kap,h⟩
  | cons p l aO=>
   intro s kap h;simp  [KN];split
   ·obtain⟨bR,eX⟩:=L p.1 _ 0 s kap h;exact aO _ _ eX
   grind
 obtain⟨apX,gn⟩:=E sh.bX s kap D;exact ak sh.bC _ _ gn
theorem Z7:∀ (l:List (Nat×b')) (x:pv l) (b:Nat),(eQ (gY du l x) b).body.gS=true->∃ q∈l,q.1=b/\q.2.ZG=true
 | [],_,_,h=>by cases h
 | p::l,x,b,h=>by
  simp  [gY,eQ]at h;by_cases e:b=p.1
  ·rw[if_pos e]at h;refine⟨p,by simp,e.symm,?_⟩;obtain⟨e8,t⟩:=p;cases t<;>first | rfl | cases h
  ·rw[if_neg e]at h;obtain⟨q,E,L⟩:=Z7 l _ b h;grind
theorem eE.Dl{C:cF}{sh:eE}{A:sh.al}(h:sh.kT s=some A)(D:bw C s a w kap F):∃ bR F',(∀ r,F r->F' r)/\bw C (sh.ad A) a w bR F':=by
  obtain⟨kap,D⟩:=apW sh D;unfold eE.kT at h;generalize sh.KO s=s at h D;split at h;case h_2=>grind
  rename_i AH;simp only[aP3]at h;obtain⟨⟨kF,b9⟩,h,rfl⟩:=h;obtain⟨F',f1,bj,aw⟩:=eE.Z5 h D;have eJ:=λb U=>aw.xg (b:=b) U;exact⟨kap, F', f1, { bj with
    dX:=bj.dX,dj:=bj.dj,bX:=aw.bX,bC:=aw.bC,own:=λb U=>bj.own b (eJ b U),inj:=λb bf U eg=>bj.inj b bf (eJ b U) (eJ bf eg)
    iY:=λb r D hc=>bj.iY b r D (hc.imp (λhc=>by
      have aV:=(aw.Dk b).2.1 hc;simp  [aC.cC];split
      · rcases An s.aa (s.aa b) with e | ⟨_,_,ao,_⟩ | ⟨_,_,_,ao,_⟩ | ⟨_,_,_,_,_,_,e⟩
        · grind
        · rw[ao]at aV;cases aV
        · rw[ao]at aV;cases aV
        · rw[e];rfl
      omega) (λhc=>by
      have aV:=(aw.Dk b).2.2.2.1 hc;simp  [aC.cC];split
      · rcases An s.aa (s.aa b) with e | ⟨_,_,ao,_⟩ | ⟨_,_,_,_,e⟩ | ⟨_,_,_,_,ao,_,_⟩
        · grind
        · rw[ao]at aV;cases aV
        · rw[e];rfl
        · rw[ao]at aV;cases aV
      omega))
    jB:=λb k an _ aW=>by
      obtain⟨cw,b2,_⟩:=(aw.Dk b).2.2.1 aW;have aD:(s.aa b).gen=0:=by
        rcases Z7 sh.bC (eU du sh.bX kF).2 b aW with⟨q,bq,rfl,hR⟩
        have:=List.all_eq_true.1 AH q bq;have bz:=D.k9 _ k an;grind
      obtain⟨aM,aS⟩:=D.jB b k an aD cw;grind
    e7:=λl aI ab n ad e=>by
      obtain⟨E,L,Y,ak,aZ,bP⟩:=bj.e7 l aI ab n ad (aw.aR l aI ab n ad e);grind
    bQ:=λe m hm=>by
      rcases aw.bQ cx e m hm with k | rfl
      · have k':((s.cC b9).aa cx).body=.bQ e m:=by
          grind [aC.cC,fN]
        obtain⟨e8,e_⟩:=bj.bQ e m k'
        refine⟨e8,λid xs ao=>?_⟩
        obtain⟨nn,cO,cJ,gT,ly,cu⟩:=e_ id xs ao
        exact⟨λl aI ab n ad aG=>nn l aI ab n ad (aw.aR l aI ab n ad aG),cO,cJ,gT,λb U=>ly b (eJ b U),cu⟩
      simp }⟩
theorem eE.A0{C:cF}{sh:eE}{A:sh.al}(h:sh.kT s=some A)(D:dc C s a w):dc C (sh.ad A) a w:=by
 obtain⟨kap,F,D⟩:=D;obtain⟨bR,F',_,bj⟩:=eE.Dl h D;exact⟨bR,F',bj⟩
end Go.Fer
namespace Go.Fer
open Go.RowKit
def apY(C:cF)(o:Oper)(s:aC)(cG:iD):Prop:=
 ∀ (a:Act) (w:World) (Q:Exit->Act->World->Prop) (K:Act->World->Prop),dc C s a w->cG.cy->c6 cG.m (λy=>∀ a' w',dc C (cG.ad y) a' w'->K a' w')->o.wpIn (eZ C.r) 0 C.P a w K Q
def apZ(C:cF)(o:Oper)(s:aC)(cG:iD):Prop:=
 ∀ gs,cG.GD=some gs->(∀ y a w,dc C (cG.ad y) a w->dc C (gs true y) a w)/\∀ a w,dc C s a w->dc C (gs false cG.d) (a.put o.dst Go.undef) w
structure q0(C:cF)(o:Oper)(s:aC)(cG:iD):Prop where
 prog:apY C o s cG
 aLH:apZ C o s cG
 aLI:vn (be C.aU s.az) o->cG.cy
theorem dc.Rr{C:cF}{s:aC}{d:Option Nat}{av AZ:aL}{a:Act}{w:World}(h:dc C (s.set d av) a w)
  (aw:∀ i,d=some i->i<C.bV) (ae:∀ kap F v,bJ C.P s.aa kap F w av v->bJ C.P s.aa kap F w AZ v):dc C (s.set d AZ) a w:=by
 cases d with
 | none=>exact h
 | some d=>
  obtain⟨kap,F,h⟩:=h;have aA:=h.hE;have aG:ca≠d:=by grind [ca,fE]
  refine⟨kap,F,{ h with bX:=λi=>?_,dX:=h.dX,dj:=h.dj,bC:=h.bC,e7:=λl aI ab n ad e=>h.e7 l aI ab n ad ?_,bQ:=h.bQ.bX rfl λl aI ab n ad e=>?_ }⟩
  ·have G:=h.bX i;grind [aC.set]
  ·grind [aC.set]
  grind [aC.set]
section
variable {C:cF} {T:Nat->V} {bs:Nat->Option aN} {o:Oper} {s:aC}
theorem A2{args:List Operand}(U:vn (be C.aU s.az) o)(aW:∀ x∈args,x∈o.op.operands.toList):kg (args.map (be C.aU s.az)):=
 Gq λv ae=>by
  simp  at ae;obtain⟨p,aj,rfl⟩:=ae;exact U p (aW p aj)
theorem Z8(bh:∀ i,o.dst=some i->i<C.bV){aR:V}{b9:List Nat}(kA:iK s.aa b9){d:aR.al} :
  (∀ (y:aR.al) a w,dc C (ug s o aR b9 (qM aR y)) a w->dc C (ug s o aR b9 (.ku true (qM aR y))) a w)/\∀ a w,dc C s a w->dc C (ug s o aR b9 (.ku false (qM aR d))) (a.put o.dst Go.undef) w:=by
 refine⟨λy a w h=>dc.Rr h bh λkap F v ae=>⟨λ_=>ae,λh=>(by grind)⟩,λa w h=>?_⟩;obtain⟨kap,F,D⟩:=h;obtain⟨F',_,bj,_⟩:=bw.mR kA D;unfold ug;split
 ·exact⟨kap,F,D.set bh ⟨λh=>(by grind),λ_=>rfl⟩⟩
 ·exact⟨kap,F',bj.set bh ⟨λh=>(by grind),λ_=>rfl⟩⟩
variable {dq:Array TypeId}{cG:iD}
theorem ap0(bh:∀ i,o.dst=some i->i<C.bV){k:Nat}{args:Array Operand}(ar:o.op=.call { callee:=.value (.func k),args:=args,argTypes:=dq }){dI:jH}(ax:hD C.P k dI.ts dI.aR dI.sh)
  (h:GF C.aU s o args.toList dI=some cG):q0 C o s cG:=by
 unfold GF at h;split at h
 ·rename_i x b9 ao;cases h;refine⟨λa w Q K D ba hm=>?_,λgs px=>?_,λU=>A2 U λx ao=>by grind [Op.operands,Call.operands]⟩
  ·obtain⟨kap,F,D⟩:=D;exact Qg D ax bh ar ba ao hm.1 λy w' a_ v n_=>hm.2 y a_ _ _ n_
  ·cases px;exact Z8 bh (rF _ ao)
 grind
theorem ap1(bh:∀ i,o.dst=some i->i<C.bV){k:Nat}{args:Array Operand}(ar:o.op=.call { callee:=.value (.func k),args:=args,argTypes:=dq }){dI:jH}(ax:hD C.P k dI.ts dI.aR dI.sh)(GO:FG C.P k dI.ts dI.aR dI.sh)
  (h:KT C.aU s o args.toList dI=some cG):q0 C o s cG:=by
 unfold KT at h;split at h
 ·rename_i x b9 ao;cases h;refine⟨λa w Q K D ba hm=>?_,λgs px=>(by grind),λU=>A2 U λx ao=>by grind [Op.operands,Call.operands]⟩;obtain⟨kap,F,D⟩:=D;obtain⟨args⟩:=args;have ds:(execOp a.eval o).run C.P w=.ok (.enter k (args.map a.eval).toArray) w:=by
   simp  [execOp,ar,resolve,Act.eval,Deferred.ofValue,invoke];have:=ax.enter (args.map a.eval).toArray w;grind
  obtain⟨F',f1,bj,f2⟩:=bw.mR (rF _ ao) D;have fA:gv C.P dI.ts F' w (args.map a.eval) x:=by
   refine w2 D.bC f1 dI.ts ao f2 (by simp) λi G dR=>?_;have E:=tU ba i (by grind);grind [qN,lD]
  refine yu (by grind) ds (GO.ik F' w _ x bj.dr bj.hW fA hm.1) λe w' ⟨v,y,he,a_,gW,U⟩=>⟨v,he,hm.2 y a_ _ _ ⟨kap,_,(D.grow U).set bh (Ay ?_)⟩⟩
  obtain⟨aH,cO,cJ,gT⟩:=gW;exact⟨aH,cO,cJ,fK _ (λr D=>.inr D) (di.refl _ _) gT⟩
 grind
theorem ap2(bh:∀ i,o.dst=some i->i<C.bV){t:Nat}{args:Array Operand}(ar:o.op=.call { callee:=.value (.tmp t),args:=args,argTypes:=dq })
  (h:GG C.aU s o t args.toList=some cG):q0 C o s cG:=by
 unfold GG at h;split at h
 ·rename_i cy aI b f hu;split at h
  ·rename_i x b9 ao;cases h;obtain⟨args⟩:=args;refine⟨λa w Q K D ba hm=>?_,λgs px=>?_,λU=>⟨?_,A2 U λx ao=>by grind [Op.operands,Call.operands]⟩⟩
   ·obtain⟨kap,F,D⟩:=D;obtain⟨F',f1,bj,f2⟩:=bw.mR (rF _ ao) D;have fA:gv C.P aI F' w (args.map a.eval) x:=by
     refine w2 D.bC f1 aI ao f2 (by simp) λi G dR=>?_;have E:=tU ba.2 i (by grind);grind [qN,lD]
    have Lf:bJ C.P s.aa kap F w (use (be C.aU s.az (.tmp t))).2 (a.eval (.tmp t)):=db D (.tmp t) hu ba.1 |> λh=>by
     grind [be]
    have e:use (be C.aU s.az (.tmp t))=(cy,.val (.fn aI b) f):=hu;rw[e]at Lf;obtain⟨_,u,Lg,_,hi⟩:=(eb rfl).1 Lf;obtain⟨g,dQ,aD,um,Rs⟩:=hi F' w f1 (di.refl _ _) bj.dr bj.hW (args.map a.eval) x fA.1 fA.2 hm.1;have ds:(execOp a.eval o).run C.P w=.ok (.enter g ((args.map a.eval).toArray++dQ)) w:=by
     grind [execOp,resolve,Deferred.ofValue,invoke]
    refine yu (by grind) ds Rs λe w' ⟨v,y,aH,he,a_,E,L,ak,U⟩=>⟨v,he,hm.2 y a_ _ _ ?_⟩
    have gW:tH C.P b (wN F' w w') w' v y:=⟨aH,E,L,ak⟩
    unfold ug;by_cases aj:b.pure=true
    ·rw[if_pos aj];have aD:=D.grow U;refine⟨kap,_,aD.set bh (Ay ?_)⟩;exact⟨aH,E,Qf aj ⟨L,ak⟩⟩
    ·rw[if_neg aj];have aD:=bj.grow U;exact⟨kap,_,aD.set bh (Ay gW)⟩
   ·cases px;exact Z8 bh (rF _ ao)
   ·have:=U (.tmp t) (by grind [Op.operands,Call.operands]);grind [be]
  grind
 grind
variable {x:Operand}
theorem ap3(aT:ed C.P T)(bh:∀ i,o.dst=some i->i<C.bV){ty:TypeId}(ar:o.op=.range ty x)(h:KZ C.aU T s o ty x=some cG):q0 C o s cG:=by
 unfold KZ at h;split at h
 ·rename_i k v d aG aw;split at h;rename_i cy av hu;split at h
  ·rename_i es b9 rD;split at h
   ·grind
   ·cases h;obtain⟨i,j,G,_,_⟩:=(aT.cB aG (by simp)).mp;refine⟨λa w Q K D ba hm=>?_,λgs px=>(by grind),λU=>vn.use U (by grind [Op.operands]) hu⟩;obtain⟨kap,F,D⟩:=D;obtain⟨F',f1,bj,f2⟩:=bw.mR (pn rD) D;have ae:=db D x hu ba;have qQ:=((eb rfl).1 (oK D.bC f1 rD f2 ae)).2;have kG:=hm.2 () rfl;have sI:(s.cC b9).aa d=s.aa d:=by grind [aC.cC]
    have fin:∀ (cE:Obj),(∀ w',w'=w.alloc cE->Aa C.P k v F' w' w.heap.size none es)->(execOp a.eval o).run C.P w=.ok (.value (.pointer (some ⟨w.heap.size,0,none⟩))) (w.alloc cE)->o.wpIn (eZ C.r) 0 C.P a w K Q:=by
     intro cE hit ds;have E:=bj.alloc   (x:=⟨(s.aa d).gen+1,.cE k v none es⟩) (D.iL (bh d aw)) (by grind)   (k:=⟨w.heap.size,0,0,false⟩) rfl λH bR _ _ _=>hit _ rfl;refine h8 (by grind) ds (kG _ _ ⟨_,F',bw.set   E bh ⟨⟨by simp[aC.cn],rfl⟩,λ_ _=>by simp⟩⟩)
    rcases qQ with⟨aB,rfl⟩ | ⟨r,ms,clk,aB,m1,m2,m3,m4,m5,m6⟩
    ·refine fin (.mapIter none 0 #[] 0) (λw' hw=>.inl ⟨by grind [tN],rfl,rfl⟩) ?_;simp_all[execOp,Instr.range,en]
    ·have ao:=(aPM aB).1;refine fin (.mapIter (some r) clk #[] clk) (λw' hw=>.inr ⟨r,ms,clk,#[],m1,?_,by grind [tN],λi G=>(m5 i (by omega) G).2.2.2.2,m6,?_,λc hc=>by grind⟩) ?_
     ·grind [rz]
     ·refine⟨List.range ms.size,by grind,List.nodup_range,λi=>by simp,λj aJ gD=>?_⟩;have Rt:j<ms.size:=by omega
      obtain⟨aM,aS,b4,hZ,_⟩:=m5 j gD Rt;refine⟨by grind,?_⟩;simp;have he:di F' w w':=by rw[hw];exact di.alloc bj.dr _
      exact CC.mono ⟨aM,aS,b4,hZ⟩ (λ_ h=>h) he
     ·have fz:(getObj r).run C.P w=.ok (.map ms clk) w:=by grind [getObj,Sem.run]
      simp[execOp,ar,Instr.range,en G,ao,fz]
  grind
 grind
theorem ap4(bh:∀ i,o.dst=some i->i<C.bV)(ar:o.op=.entry x)(h:K4 C.aU s o x=some cG):q0 C o s cG:=by
 unfold K4 at h;split at h
 ·rename_i b g ao;split at h
  ·rename_i aD;split at h
   ·rename_i k v c b6 U;cases h;refine⟨λa w Q K D _ hm=>?_,λgs px=>(by grind),λ_=>trivial⟩;obtain⟨kap,F,D⟩:=D;have ae:=lD D x;rw[ao]at ae;have ae:=ae.2 aD.symm (by rw[U];rfl);have aX:=D.bC b;unfold c7 at aX;rw[U]at aX;have gM:=h6.1 hm;have kG:=dF.1 gM.2;obtain⟨gl,kB⟩:=Option.isSome_iff_exists.1 gM.1;subst kB;rcases aX with⟨_,_,e⟩ | ⟨oG,es,clk,hn,E,L,ak,aZ,bP,_,iW⟩
    ·grind
    ·obtain⟨i,G,ay,he⟩:=iW gl rfl;have Gp:es.find? (λe=>e.born == es[i].born)=some es[i]:=by
      cases ax:es.toList.find? (λe=>e.born == es[i].born) with
      | none=>grind
      | some e=>
       grind [List.mem_iff_getElem]
     have GP:(getObj (kap b).aa).run C.P w=.ok (.mapIter (some oG) clk hn clk) w:=by grind [getObj,Sem.run]
     have AF:(getObj oG).run C.P w=.ok (.map es clk) w:=by grind [getObj,Sem.run]
     have ds:(execOp a.eval o).run C.P w=.ok (.value (.tuple #[es[i].key,es[i].val])) w:=by
      simp[execOp,ar,Instr.entry,ae,GP,AF,ay,Gp]
     refine h8 (by grind) ds (kG _ _ ⟨kap,F,D.set bh ⟨[es[i].key,es[i].val],rfl,rfl,λn aA=>?_⟩⟩);match n,aA with
     | 0,_=>exact⟨he.1,he.2.1⟩
     | 1,_=>exact⟨he.2.2.1,he.2.2.2⟩
   grind
  grind
 grind
theorem ap5{es:Array MapEntry}{hn:Array Nat}{clk:Nat}(aZ:∀ i (h:i<es.size),es[i].born<clk) :
  (es.filter λe=>!hn.contains e.born).filter (λe=>decide (e.born<clk))=(es.filter λe=>!hn.contains e.born)/\(es.filter λe=>!hn.contains e.born).filter (λe=>decide (e.born>=clk))=#[]:=by
 have gu:∀ e∈es.filter λe=>!hn.contains e.born,e.born<clk:=by
  grind [Array.mem_iff_getElem]
 grind [Array.filter_eq_self,Array.filter_eq_empty_iff]
theorem ap6(P:Program)(w:World)(n:Nat):∃ j w',(choose (.mapNext n)).run P w=.ok j w'/\(0<n->j<n)/\(w'=w\/w'=w.drew):=by
 rw[run_choose];by_cases h:n<=1
 ·have:(Question.mapNext n).forced=true:=by grind [Question.forced]
  rw[this];grind
 ·have:(Question.mapNext n).forced=false:=by grind [Question.forced]
  rw[this];exact⟨_,_,rfl,λaA=>Nat.mod_lt _ aA,.inr rfl⟩
theorem ap7(bh:∀ i,o.dst=some i->i<C.bV){str:Bool}(ar:o.op=.next x str)(h:K3 C.aU s o x str=some cG):q0 C o s cG:=by
  unfold K3 at h;split at h
  · rename_i b g ao
    split at h
    · rename_i aD
      split at h
      · rename_i k v c b6 U
        cases h
        refine⟨λa w Q K D _ hm=>?_,λgs px=>(by grind),λ_=>trivial⟩
        obtain⟨kap,F,D⟩:=D
        have ae:=lD D x
        rw[ao]at ae
        have ae:=ae.2 aD.symm (by rw[U];rfl)
        have aX:=D.bC b
        unfold c7 at aX
        rw[U]at aX
        have aw:∀ c,o.op≠.defer c:=by grind
        have hU:∀ w',(w'=w\/w'=w.drew)->b6=[]->(execOp a.eval o).run C.P w=.ok (.value (.tuple #[.bool false])) w'->o.wpIn (eZ C.r) 0 C.P a w K Q:=by
          intro w' Dm rM ds;have c1:bw C s a w' kap F:=by
            rcases Dm with rfl | rfl
            · omega
            · exact D.drew
          have Y0:s.cn b ⟨g,.cE k v c b6⟩=s:=by
            unfold aC.cn;congr 1;funext i;by_cases G:i=b
            · rw[if_pos G,G,<-U,<-aD]
            grind
          refine h8 aw ds (hm.2 none rM _ _ ⟨kap,F,bw.set (s:=s.cn b ⟨g,.cE k v c b6⟩) (by grind) bh ⟨[.bool false],rfl,rfl,λn aA=>?_⟩⟩);have:=by simp  [ZS]at aA;omega
          subst this;exact gC.2 rfl
        rcases aX with⟨E,L,_⟩ | ⟨oG,es,clk,hn,E,L,ak,aZ,bP,⟨ids,i1,i2,i3,i4⟩,iW⟩
        · refine hU w (.inl rfl) L ?_
          have GP:(getObj (kap b).aa).run C.P w=.ok (.mapIter none 0 #[] 0) w:=by simp[getObj,Sem.run,E]
          simp[execOp,ar,Instr.next,ae,GP]
        · have GP:(getObj (kap b).aa).run C.P w=.ok (.mapIter (some oG) clk hn clk) w:=by simp[getObj,Sem.run,ak]
          have AF:(getObj oG).run C.P w=.ok (.map es clk) w:=by simp[getObj,Sem.run,L]
          obtain⟨f1,f2⟩:=ap5   aZ
          have gu:(!hn.isEmpty&&!es.isEmpty&&es.all (λe=>decide (e.born>=clk)))=false:=by
            by_cases he:es.size=0
            · grind
            · have:es.all (λe=>decide (e.born>=clk))=false:=by
                rw[Array.all_eq_false];exact⟨0,by omega,by grind⟩
              grind
          generalize ap8:(es.filter λe=>!hn.contains e.born)=left at f1 f2
          have ap9:((if left.isEmpty=true then #[none] else #[])++Array.map some (left++(#[])))=(if left.isEmpty=true then #[none] else Array.map some left):=by
            grind
          obtain⟨j,w',bE,c2,c3⟩:=ap6 C.P w (if left.isEmpty=true then #[none] else Array.map some left).size
          have df:w'.heap=w.heap:=by rcases c3 with rfl | rfl<;>rfl
          have Ru : ∀ r dL, (match (if left.isEmpty = true then #[none] else Array.map some left)[j]? with
                | some (some e)=>(do setObj (kap b).aa (.mapIter (some oG) clk (hn.push e.born) clk);pure (.tuple #[.bool true,e.key,e.val]):Sem Value)
                | some none=>pure (.tuple #[.bool false])
                | none => stuck "Next: no such candidate").run C.P w' = .ok r dL -> (execOp a.eval o).run C.P w = .ok (.value r) dL := by
            intro r dL c1;simp only[execOp,ar,Instr.next,ae,Sem.run_bind,GP,Result.andThen_ok,AF,gu,aml,aPA,ap8,f1,f2,ap9,bE];exact (congrArg (λz=>z.andThen λv w'=>Sem.run C.P (Pure.pure (Next.value v)) w') c1).trans rfl
          by_cases hle:left.isEmpty=true
          · have rM:b6=[]:=by
              have:ids=[]:=List.eq_nil_iff_forall_not_mem.2 λi G=>by
                simp_all
              grind
            rw[hle]at Ru c2
            have aJ:j=0:=by grind
            subst aJ
            exact hU w' c3 rM (Ru _ _ rfl)
          · have aJ:j<left.size:=by grind
            have ob:left[j]∈(es.filter λe=>!hn.contains e.born):=by grind
            obtain⟨w4,aLJ⟩:=Array.mem_filter.1 ob
            obtain⟨i0,sL,aLK⟩:=Array.mem_iff_getElem.1 w4
            have ap_:=(i3 i0).2 ⟨sL,by grind⟩
            obtain⟨q,bq,Lh⟩:=List.mem_iff_getElem.1 ap_
            have Rv:q<b6.length:=by omega
            have tY:(setObj (kap b).aa (.mapIter (some oG) clk (hn.push left[j].born) clk)).run C.P w'=.ok () { w' with heap:=w'.heap.setIfInBounds (kap b).aa (.mapIter (some oG) clk (hn.push left[j].born) clk) }:=by
              simp[setObj,Sem.run,df,ak]
            have ds:=Ru (.tuple #[.bool true,left[j].key,left[j].val]) { w' with heap:=w'.heap.setIfInBounds (kap b).aa (.mapIter (some oG) clk (hn.push left[j].born) clk) } (by
              simp_all)
            have ky:dM w w':=by rcases c3 with rfl | rfl<;>exact⟨rfl,rfl,rfl⟩
            have hp:fL s.aa kap (λi=>if i=b then (⟨g,.cE k v b6[q]? (b6.eraseIdx q)⟩) else s.aa i) kap:=
              pf aD.symm (λh=>by cases h) (λh=>by cases h) (λh=>by cases h) (λ_=>by rw[U];rfl)
            have gF:=D.qL     (w':={ w' with heap:=w'.heap.setIfInBounds (kap b).aa (.mapIter (some oG) clk (hn.push left[j].born) clk) }) (by rw[U];rfl) rfl hp (λh=>by cases h) (λh=>by cases h)
              (λr Qo=>by grind) (by grind) ⟨ky.os,ky.tape,ky.output⟩ λH _ _ he=>by
                refine .inr ⟨oG,es,clk,hn.push left[j].born,E,?_,by grind,aZ,bP,⟨ids.eraseIdx q,?_,?_,λi=>?_,λn aA sM=>?_⟩,λgl kB=>?_⟩
                · grind
                · grind
                · grind
                · rw[List.mem_eraseIdx_iff_getElem]
                  constructor
                  · rintro⟨n,aA,Li,rfl⟩
                    obtain⟨h',lG⟩:=(i3 ids[n]).1 (by simp)
                    refine⟨h',?_⟩
                    simp only[Array.contains_push,aQg]
                    refine⟨lG,?_⟩
                    simp
                    intro e
                    exact Li ((List.getElem?_inj aA i2).1 (by grind))
                  · rintro⟨h',lG⟩
                    grind [List.mem_iff_getElem]
                · have yG:(ids.eraseIdx q)[n]=if h:n<q then ids[n]'(by omega) else ids[n+1]'(by grind):=by
                    grind
                  have Z9:(b6.eraseIdx q)[n]=if h:n<q then b6[n]'(by omega) else b6[n+1]'(by grind):=by
                    grind
                  have hlen:n+1<ids.length:=by grind
                  by_cases Li:n<q
                  · obtain⟨h',lG⟩:=i4 n (by omega) (by omega)
                    simp  [yG,Z9,Li]
                    exact⟨h',lG.mono (λ_ h=>h) he⟩
                  · obtain⟨h',lG⟩:=i4 (n+1) hlen (by omega)
                    simp  [yG,Z9,Li]
                    exact⟨h',lG.mono (λ_ h=>h) he⟩
                · rw[ams Rv]at kB
                  cases kB
                  obtain⟨h',lG⟩:=i4 q bq Rv
                  refine⟨i0,sL,by grind,?_⟩
                  have aB:es[ids[q]]=es[i0]:=by grind
                  rw[aB]at lG
                  exact lG.mono (λ_ h=>h) he
            refine h8 aw ds (hm.2 (some q) Rv _ _ ⟨kap,F,bw.set   gF bh ⟨[.bool true,left[j].key,left[j].val],rfl,rfl,λn aA=>?_⟩⟩)
            match n,aA with
            | 0,_=>exact gC.2 rfl
            | 1,_=>trivial
            | 2,_=>trivial
      grind
    grind
  grind
end
end Go.Fer
namespace Go.Fer
open Go.RowKit
def GQ:z10'->List Value->List Value->Prop
 | [],[],aH=>aH=[]
 | none::g,u::us,aH=>∃ tI,aH=u::tI/\GQ g us tI
 | some n::g,u::us,aH=>∃ cs tI,u=.agg cs/\cs.size=n/\(∀ c∈cs.toList,c.oneCell'=true)/\aH=cs.toList++tI/\GQ g us tI
 | _,_,_=>False
def Lj(g:z10')(v:Value)(aH:List Value):Prop:=∃ us:List Value,us.length=g.length/\v=(if us.length=1 then us.getD 0 undef else .tuple us.toArray)/\GQ g us aH
structure cW(P:Program)(aP:dV)(k:FuncId)(c:cL):Prop where
 enter:∀ args w,(callFunc k args).run P w=.ok (.enter k args) w
 ik:∀ (C:cF) (a:Act) (w:World) (kap:Nat->bI) (F:Nat->Prop) (A:c.cA.al),C.P=P->C.ep=w->C.r=none->C.dj=[]->C.bV=c.kU->C.aU=aP->bw C (c.cA.ad A) a w kap F->(c.sh A).fm->
  Calls P k a.tmps w λe w'=>∃ v bk aH bR F',e=.returned v/\(c.sh A).a7 bk/\Lj c.lh v aH/\bw { C with bV:=aH.length } (c.a7.ad bk) { tmps:=aH.toArray,defers:=[] } w' bR F'
section
variable {P:Program} {H H':Nat->b7} {kap bR:Nat->bI} {F:Nat->Prop} {w:World} {g:Nat->z24'}
def rN(H H':Nat->b7)(kap bR:Nat->bI)(g:Nat->z24'):Prop:=∀ b,(H b).gen=0/\tM ⟨(g b).2,(H b).body⟩ (H' (g b).1) (kap b) (bR (g b).1)
theorem rN.eY(h:rN H H' kap bR g){b off:Nat}{v:Value}(ae:bJ P H kap F w (.eY b 0 off) v):bJ P H' bR F w (.eY (g b).1 (g b).2 off) v:=by
 obtain⟨aV,aM,aS⟩:=h b;refine⟨⟨aM,ae.1.2⟩,λaD hc=>?_⟩;obtain⟨bE,c2⟩:=(aS aD).1 hc;rw[c2];exact ae.2 aV.symm bE
theorem rN.av(h:rN H H' kap bR g)(t:cc){R:Type}(z:t.cons R){v:Value}(ae:bJ P H kap F w (t.av du z).1 v):bJ P H' bR F w (t.av g z).1 v:=by
 cases t with
 | undef=>trivial
 | val t=>exact ae
 | eL t=>exact ae
 | eY b off=>exact h.eY ae
 | own b=>
  obtain⟨aV,aM,aS⟩:=h b;refine⟨⟨aM,ae.1.2⟩,λaD hc=>?_⟩;obtain⟨bE,c2,c3,c4⟩:=(aS aD).2.1 hc;rw[c2,c3];exact ae.2 aV.symm bE
 | sub b=>
  obtain⟨aV,aM,aS⟩:=h b;refine⟨⟨aM,ae.1.2⟩,λaD hc=>?_⟩;obtain⟨bE,c2,c3,c4⟩:=(aS aD).2.1 hc;rw[c2,c3,c4];exact ae.2 aV.symm bE
 | hk b=>
  obtain⟨aV,aM,aS⟩:=h b;refine⟨⟨aM,ae.1.2⟩,λaD hc=>?_⟩;obtain⟨bE,c2⟩:=(aS aD).2.2.1 hc;rw[c2];exact ae.2 aV.symm bE
 | l2 b=>
  obtain⟨aV,aM,aS⟩:=h b;refine⟨⟨aM,ae.1.2⟩,λaD hc=>?_⟩;obtain⟨bE,c2⟩:=(aS aD).2.2.2 hc;rw[c2];exact ae.2 aV.symm bE
 | dW=>exact ae
 | ji k hF=>
  obtain⟨aH,E,L,ak⟩:=ae;refine⟨aH,E,L,λi G=>?_⟩;have:=ak i G;have aB:yA du hF i=.eY hF[i].1 0 hF[i].2:=by simp[yA,hX,amp,G,du]
  have bt:yA g hF i=.eY (g hF[i].1).1 (g hF[i].1).2 hF[i].2:=by simp[yA,hX,amp,G]
  rw[aB]at this;rw[bt];exact h.eY this
 | fG dz=>
  obtain⟨aH,E,L,ak⟩:=ae;refine⟨aH,E,L,λi G=>?_⟩;obtain⟨this,kB⟩:=ak i G;refine⟨?_,kB⟩;have aB:yB du dz i=.own dz[i] 0:=by simp[yB,hX,amp,G,du]
  have bt:yB g dz i=.own (g dz[i]).1 (g dz[i]).2:=by simp[yB,hX,amp,G]
  rw[aB]at this;rw[bt];obtain⟨aV,aM,aS⟩:=h dz[i];refine⟨⟨aM,this.1.2⟩,λaD hc=>?_⟩;obtain⟨bE,c2,c3,c4⟩:=(aS aD).2.1 hc;rw[c2,c3];exact this.2 aV.symm bE
 | hP b=>
  obtain⟨aV,aM,aS⟩:=h b;refine⟨⟨aM,ae.1.2⟩,λaD hc=>?_⟩;obtain⟨bE,c2⟩:=(aS aD).1 hc;rw[c2];exact ae.2 aV.symm bE
 | kQ b=>
  obtain⟨aV,aM,aS⟩:=h b;refine⟨⟨aM,ae.1.2⟩,λaD hc=>?_⟩;obtain⟨bE,c2,c3,c4⟩:=(aS aD).2.1 hc;rw[c2,c3,c4];exact ae.2 aV.symm bE
 | aR aI=>trivial
 | il=>exact ae
variable {R:Type}
theorem Dn(t:cc)(z:t.cons R):(t.av g z).2=(t.av du z).2:=by cases t<;>rfl
theorem Z_:∀ (ts:List cc) {R:Type} (z:sO ts R),(rG g ts z).2=(rG du ts z).2
 | [],_,_=>rfl
 | t::ts,_,z=>by simp only[rG];rw[Dn (g:=g) t z];exact Z_ ts _
theorem Rw(t:b')(z:t.cons R):(t.body g z).2=(t.body du z).2:=by
 cases t with
 | cells t l=>exact Z_ l z
 | h7 e t=>exact Dn t z.2
 | _=>rfl
theorem Lk:∀ (ts:List (Nat×cc)) {R:Type} (z:qX ts R),(eU g ts z).2=(eU du ts z).2
 | [],_,_=>rfl
 | p::ts,_,z=>by simp only[eU];rw[Dn (g:=g) p.2 z];exact Lk ts _
theorem rN.cV(h:rN H H' kap bR g):∀ (ts:List cc) {R:Type} (z:sO ts R) (i:Nat) {v:Value},bJ P H kap F w ((rG du ts z).1.getD i .undef) v->bJ P H' bR F w ((rG g ts z).1.getD i .undef) v
 | [],_,_,i,v,_=>by simp[rG,bJ]
 | t::ts,_,z,i,v,ae=>by
  simp only[rG]at ae ⊢;cases i with
  | zero=>exact h.av t z ae
  | succ i=>
   simp only[List.getD_cons_succ]at ae ⊢;rw[Dn (g:=g) t z];exact h.cV ts _ i ae
theorem rN.bX(h:rN H H' kap bR g):∀ (ts:List (Nat×cc)) {R:Type} (z:qX ts R) (i:Nat) {v:Value},bJ P H kap F w (fi (eU du ts z).1 i) v->bJ P H' bR F w (fi (eU g ts z).1 i) v
 | [],_,_,i,v,_=>by simp[eU,fi,bJ]
 | p::ts,_,z,i,v,ae=>by
  simp only[eU,fi]at ae ⊢;by_cases e:i=p.1
  ·rw[if_pos e]at ae ⊢;exact h.av p.2 z ae
  ·rw[if_neg e]at ae ⊢;rw[Dn (g:=g) p.2 z];exact h.bX ts _ i ae
theorem Rx:∀ (ts:List (Nat×cc)) {R:Type} (z:qX ts R) (i:Nat) {l aI ab n ad},fi (eU g ts z).1 i=.aR l aI ab n ad->fi (eU du ts z).1 i=.aR l aI ab n ad
 | [],_,_,i,_,_,_,_,_,h=>by simp[eU,fi]at h
 | p::ts,_,z,i,l,aI,ab,n,ad,h=>by
  simp only[eU,fi]at h ⊢;by_cases e:i=p.1
  ·rw[if_pos e]at h ⊢;obtain⟨e8,t⟩:=p;cases t<;>first | exact h | cases h
  ·rw[if_neg e]at h ⊢;rw[Dn (g:=g) p.2 z]at h;exact Rx ts _ i h
def A3(x y:b8):Prop:=x.hl=y.hl/\x.gS=y.gS/\x.len=y.len/\x.gJ=y.gJ/\x.iX=y.iX/\x.qK=y.qK/\∀ k,x.cd k=y.cd k
theorem A3.refl(x:b8):A3 x x:=⟨rfl,rfl,rfl,rfl,rfl,rfl,λ_=>rfl⟩
theorem ap'(t:b')(z:t.cons R):A3 (t.body g z).1 (t.body du z).1:=by
 cases t with
 | cells t l=>exact⟨rfl,rfl,rfl,rfl,rfl,rfl,λ_=>rfl⟩
 | h7 e t=>exact⟨rfl,rfl,rfl,rfl,rfl,rfl,λ_=>rfl⟩
 | _=>exact A3.refl _
theorem aqa:∀ (t:V) (x:t.al) (av:aL),av∈p4 t x->∀ {v:Value},bJ P H kap F w av v->bJ P H' bR F w av v:=by
  intro t;induction t with
  | dh=>intro x av h;cases h
  | ad t aO=>intro x av h;exact aO x av h
  | au a b gI fS=>
   intro x av h;rcases List.mem_append.1 h with h | h
   ·exact gI _ av h
   ·exact fS _ av h
  | array n e aO=>
   intro x av h;simp only[p4,aQ4]at h;grind
  | _=>
   intro x av h v ae;simp only[p4,aQO]at h;subst h;exact ae
theorem rN.body(h:rN H H' kap bR g)(t:b'){R:Type}(z:t.cons R){k:bI}(U:mu P H kap F w k (t.body du z).1):mu P H' bR F w k (t.body g z).1:=by
 cases t with
 | cells t l=>
  obtain⟨cs,T,E,L,ak⟩:=U;exact⟨cs,T,E,L,λi G=>⟨h.cV l z i (ak i G).1,(ak i G).2⟩⟩
 | gx t=>
  obtain⟨cs,T,E,L,ak⟩:=U;refine⟨cs,T,E,L,λi G=>⟨?_,(ak i G).2⟩⟩;have:=(ak i G).1;unfold hX at this ⊢;rw[amp]at this ⊢;cases ah:(p4 t z.1)[i]? with
  | none=>trivial
  | some av=>
   rw[ah]at this;simp only[amx]at this ⊢;have ob:=aQx ah;exact aqa t z.1 av ob this
 | bl e=>exact U
 | jz e=>exact U
 | mp k v=>exact U
 | k5 k v=>exact U
 | im t=>exact U
 | cE k v=>exact U
 | bQ e=>exact U
 | h7 e t=>
  obtain⟨aV,cs,T,E,L,ak,aZ,bP,ej,iW,kP⟩:=U;exact⟨aV,cs,T,E,L,ak,aZ,bP,ej,h.av t z.2 iW,kP⟩
theorem Ry{l:List (Nat×b')}{x y:pv l}(h:x=y)(g:Nat->z24')(b:Nat):eQ (gY g l x) b=eQ (gY g l y) b:=by rw[h]
theorem Z':∀ (l:List (Nat×b')) (x:pv l) (b:Nat),A3 (eQ (gY g l x) b).body (eQ (gY du l x) b).body
 | [],_,_=>A3.refl _
 | p::l,x,b=>by
  simp only[gY,eQ];split
  ·exact ap' p.2 x
  ·rw[Rw (g:=g) p.2 x];exact Z' l _ b
theorem aaa:∀ (l:List (Nat×b')) (x:pv l) (b:Nat) {e:V} {m:List (Nat×List e.al)},(eQ (gY g l x) b).body=.bQ e m->(eQ (gY du l x) b).body=.bQ e m
 | [],_,_,_,_,h=>by cases h
 | p::l,x,b,e,m,h=>by
  simp only[gY,eQ]at h ⊢;by_cases k:b=p.1
  ·rw[if_pos k]at h ⊢;obtain⟨e8,t⟩:=p;cases t<;>first | exact h | cases h
  ·rw[if_neg k]at h ⊢;rw[Rw (g:=g) p.2 x]at h;exact aaa l _ b h
theorem rN.bC(h:rN H H' kap bR g):∀ (l:List (Nat×b')) (x:pv l) (b:Nat) {k:bI},mu P H kap F w k (eQ (gY du l x) b).body->mu P H' bR F w k (eQ (gY g l x) b).body
 | [],_,_,k,_=>trivial
 | p::l,x,b,k,U=>by
  simp only[gY,eQ]at U ⊢;split
  ·rename_i e;rw[if_pos e]at U;exact h.body p.2 x U
  ·rename_i e;rw[if_neg e]at U;rw[Rw (g:=g) p.2 x];exact h.bC l _ b U
theorem Rz:∀ (l:List (Nat×b8)) (b:Nat),(eQ l b).gen=0
 | [],_=>rfl
 | p::l,b=>by
  simp only[eQ];split
  ·rfl
  ·exact Rz l b
end
end Go.Fer
namespace Go.Fer
open Go.RowKit
theorem Ll{af:Type}{k:af->Nat}:∀ {l:List af},(l.map k).Nodup->∀ {p:af},p∈l->l.find? (λq=>k q == k p)=some p
 | [],_,_,h=>by cases h
 | a::l,aA,p,h=>by
  simp only[aPS,aQ0]at aA;by_cases e:k a=k p
  ·grind
  ·rw[List.find?_cons_of_neg (by grind)];rcases List.mem_cons.1 h with rfl | h
   ·omega
   ·exact Ll aA.2 h
theorem GR{af:Type}{k:af->Nat}{l:List af}(aA:(l.map k).Nodup){p q:af}(aj:p∈l)(bq:q∈l)(e:k p=k q):p=q:=by
 have E:=Ll aA aj;rw[e,Ll aA bq]at E;grind
theorem aab:∀ {l:z8'},(l.map (·.1)).Nodup->∀ {p},p∈l->gL l p.1=p.2
 | [],_,_,h=>by cases h
 | a::l,aA,p,h=>by
  simp only[aPS,aQ0]at aA;simp only[gL];by_cases e:p.1=a.1
  ·grind
  ·rw[if_neg e];rcases List.mem_cons.1 h with rfl | h
   ·omega
   ·exact aab aA.2 h
theorem aac:∀ {l:z8'} {b:Nat},b ∉ l.map (·.1)->gL l b=(sP,0)
 | [],_,_=>rfl
 | a::l,b,h=>by
  simp only[aPS,aQN,not_or]at h;simp only[gL];rw[if_neg h.1];exact aac h.2
theorem aad(s:aC)(d:Nat)(f:Nat->Nat)(ins:List Nat):∀ (l:List (Nat×b')) (j:Nat),(sQ s d f ins l j).map (·.1)=l.map (·.1)
 | [],_=>rfl
 | p::l,j=>by
  simp only[sQ,aPS,aad s d f ins l (j+1)];split
  ·rfl
  ·split<;>rfl
theorem aae(s:aC)(d:Nat)(f:Nat->Nat)(ins:List Nat):∀ (l:List (Nat×b')) (j:Nat) {p:Nat×(Nat×Nat)},p∈sQ s d f ins l j->
  (p.1∈ins/\p.2.1=f p.1/\∃ t,(p.1,t)∈l/\((p.2.2=(s.aa (f p.1)).gen/\((∀ (g:Nat->z24') (R:Type) (z:t.cons R),(t.body g z).1.gS=false)\/(yh<=p.1/\∃ e,t=.bl e)))\/p.2.2=(s.aa (f p.1)).gen+1))\/
  (p.1 ∉ ins/\p.2.2=(s.aa p.2.1).gen+1/\50000+10*d+j<=p.2.1/\p.2.1<50000+10*d+j+l.length)\/
  (p.2=(cx,(s.aa cx).gen)/\∃ e,(p.1,b'.bQ e)∈l)
 | [],_,p,h=>by cases h
 | q::l,j,p,h=>by
  simp only[sQ,aQN]at h;rcases h with h | h
  ·by_cases l8:q.2.l3=true
   ·rw[if_pos l8]at h;subst h;obtain⟨cO,cJ⟩:=q;cases cJ<;>first | exact .inr (.inr ⟨rfl,_,aQA⟩) | cases l8
   rw[if_neg l8]at h;by_cases bq:ins.contains q.1=true
   ·rw[if_pos bq]at h;subst h;refine .inl ⟨by simpa using bq,rfl,q.2,by simp,?_⟩;obtain⟨cO,t⟩:=q;cases t with
    | bl e=>
     by_cases an:yh<=cO
     ·exact .inl ⟨by simp[an],.inr ⟨an,e,rfl⟩⟩
     ·exact .inr (by simp[an])
    | bQ e=>exact (l8 rfl).elim
    | _=>first | exact .inr rfl | exact .inl ⟨rfl,.inl λ_ _ _=>rfl⟩
   ·rw[if_neg bq]at h;subst h;refine .inr (.inl ⟨by simpa using bq,rfl,by simp,by simp⟩)
  ·rcases aae s d f ins l (j+1) h with⟨E,L,t,ak,aZ⟩ | ⟨E,L,ak,aZ⟩ | ⟨E,e,L⟩
   ·exact .inl ⟨E,L,t,amr _ ak,aZ⟩
   ·exact .inr (.inl ⟨E,L,by omega,by simp only[aQn];omega⟩)
   ·exact .inr (.inr ⟨E,e,amr _ L⟩)
theorem A4(g:Nat->z24'):∀ (l:List (Nat×b')) (x:pv l) (b:Nat),(eQ (gY g l x) b=⟨0,.ey⟩/\b ∉ l.map (·.1))\/∃ q∈l,q.1=b/\∃ (R:Type) (z:q.2.cons R),eQ (gY g l x) b=⟨0,(q.2.body g z).1⟩
 | [],_,_=>.inl ⟨rfl,by simp⟩
 | p::l,x,b=>by
  simp only[gY,eQ];by_cases e:b=p.1
  ·grind
  ·rw[if_neg e];rcases A4 g l (p.2.body g x).2 b with⟨E,L⟩ | ⟨q,E,L⟩
   ·exact .inl ⟨E,by rw[aPS,aQN,not_or];exact⟨e,L⟩⟩
   ·exact .inr ⟨q,amr _ E,L⟩
theorem aaf(s:aC)(d:Nat)(f:Nat->Nat)(ins:List Nat):∀ (l:List (Nat×b')) (j:Nat) {q:Nat×b'},q∈l->q.2.l3=true->cx∈(sQ s d f ins l j).map (·.2.1)
 | [],_,_,h,_=>by cases h
 | p::l,j,q,h,bq=>by
  simp only[sQ,aPS,aQN];rcases List.mem_cons.1 h with rfl | h
  ·exact .inl (by rw[if_pos bq])
  ·exact .inr (aaf s d f ins l (j+1) h bq)
theorem aag(g:Nat->z24'):∀ (l:List (Nat×b')) (x:pv l) {b:Nat} {e:V},(l.map (·.1)).Nodup->(b,b'.bQ e)∈l->∃ m,eQ (gY g l x) b=⟨0,.bQ e m⟩
 | [],_,_,_,_,h=>by cases h
 | p::l,x,b,e,aA,h=>by
  simp only[aPS,aQ0]at aA;simp only[gY,eQ];rcases List.mem_cons.1 h with rfl | h
  ·exact⟨_,if_pos rfl⟩
  ·rw[if_neg λk:b=p.1=>aA.1 (by rw[<-k];exact aQa (f:=(·.1)) h)];exact aag g l _ aA.2 h
theorem aqb{t u:b'}(h:t.KI u=true){g g':Nat->z24'}{R uo:Type}(z:t.cons R)(oO:u.cons uo) :
  ((t.body g z).1.hl=true->(u.body g' oO).1.hl=true/\∀ k,(u.body g' oO).1.cd k=true)/\((t.body g z).1.iX=true->(u.body g' oO).1.iX=true/\∀ k,(u.body g' oO).1.cd k=true)/\(t.body g z).1.qK=false:=by
 cases t<;>cases u<;>first
  | exact Bool.noConfusion h
  | exact⟨λ_=>⟨rfl,λ_=>rfl⟩,λh=>Bool.noConfusion h,rfl⟩
  | exact⟨λh=>Bool.noConfusion h,λ_=>⟨rfl,λ_=>rfl⟩,rfl⟩
  | exact⟨λh=>Bool.noConfusion h,λh=>Bool.noConfusion h,rfl⟩
theorem yH:∀ (ts:List (Nat×cc)) {R:Type} (g:Nat->z24') (z:qX ts R) (i:Nat),ts.any (λp=>p.1 == i)=false->fi (eU g ts z).1 i=.undef
 | [],_,_,_,_,_=>rfl
 | p::ts,_,g,z,i,h=>by
  simp only[aQC,aQg,beq_eq_false_iff_ne]at h;simp only[eU,fi];rw[if_neg (Ne.symm h.1)];exact yH ts g _ i h.2
theorem RA{P:Program}{H:Nat->b7}{kap:Nat->bI}{F:Nat->Prop}{w:World}:∀ (g:z10') {us aH:List Value},GQ g us aH->∀ (c:Nat->aL) (i:Nat),(∀ j,j<aH.length->bJ P H kap F w (c (i+j)) (aH.getD j undef))->
  (rI g c i).length=g.length/\us.length=g.length/\∀ j,j<g.length->bJ P H kap F w ((rI g c i).getD j .undef) (us.getD j undef)
 | [],[],aH,_,_,_,_=>⟨rfl,rfl,λj aJ=>by cases aJ⟩
 | [],_::_,_,h,_,_,_=>h.elim
 | none::g,[],_,h,_,_,_=>h.elim
 | some n::g,[],_,h,_,_,_=>h.elim
 | none::g,u::us,aH,h,c,i,ae=>by
  obtain⟨tI,rfl,h⟩:=h;obtain⟨E,L,ak⟩:=RA g h c (i+1) λj aJ=>by
   have:=ae (j+1) (by grind);rw[show i+(j+1)=i+1+j by omega]at this;simpa using this
  refine⟨by simp[rI,E],by grind,λj aJ=>?_⟩;cases j with
  | zero=>simpa [rI]using ae 0 (by simp)
  | succ j=>simpa [rI]using ak j (by grind)
 | some n::g,u::us,aH,h,c,i,ae=>by
  obtain⟨cs,tI,rfl,aA,qb,rfl,h⟩:=h;obtain⟨E,L,ak⟩:=RA g h c (i+n) λj aJ=>by
   have:=ae (n+j) (by grind);rw[show i+(n+j)=i+n+j by omega]at this;have e:(cs.toList++tI).getD (n+j) undef=tI.getD j undef:=by
    grind
   rw[e]at this;omega
  refine⟨by simp[rI,E],by grind,λj aJ=>?_⟩;cases j with
  | zero=>
   simp only[rI,List.getD_cons_zero];refine⟨cs.toList,by simp,by omega,λj aJ=>?_⟩;grind
  | succ j=>simpa [rI]using ak j (by grind)
theorem aqc{P:Program}{H:Nat->b7}{kap:Nat->bI}{F:Nat->Prop}{w:World}{g:z10'}{v:Value}{aH:List Value}(h:Lj g v aH){c:Nat->aL}(ae:∀ j,bJ P H kap F w (c j) (aH.getD j undef)) :
  bJ P H kap F w (Q5 (rI g c 0)) v:=by
 obtain⟨us,E,L,ak⟩:=h;obtain⟨aM,_,b4⟩:=RA g ak c 0 (λj _=>by simpa using ae j);subst L;generalize rI g c 0=l at aM b4;unfold Q5;split
 ·grind
 ·rename_i ah;have eM:us.length≠1:=λe=>by
   have:l.length=1:=by omega
   match l,this with
   | [x],_=>grind
  rw[if_neg eM];refine⟨us,rfl,by omega,λi G=>?_⟩;unfold hX;grind
section
variable {C:cF} {s:aC} {a:Act} {w:World} {kap:Nat->bI} {F:Nat->Prop}
theorem bw.args(D:bw C s a w kap F){cV:List aL}{us:List Value}(aA:us.length<=fE)(ah:cV.length=us.length)(ae:∀ i,i<us.length->bJ C.P s.aa kap F w (cV.getD i .undef) (us.getD i undef)) :
    bw { C with bV:=us.length,dj:=[],r:=none } (vs s cV) { tmps:=us.toArray,defers:=[] } w kap F:=
  { D with
    dX:=by simp,dj:=rfl,hE:=aA
    bX:=λi=>by
      show bJ C.P s.aa kap F w (if i=ca then s.az ca else if i<cV.length then cV.getD i .undef else .undef) (us.toArray.getD i undef);split
      · have E:=D.bX ca
        have L:a.tmps.getD ca undef=undef:=by
          have:=D.dX;have:=D.hE;grind [ca,fE]
        grind [ca,fE]
      · split
        · simp_all
        · trivial
    bC:=D.bC
    e7:=λl aI ab n ad e=>D.e7 l aI ab n ad (by grind [vs])
    bQ:=wR.bX (C:={ C with bV:=us.length,dj:=[],r:=none }) (s:=s) D.bQ rfl λl aI ab n ad e=>by grind [vs] }
def vw(C:cF)(w:World)(F':Nat->Prop)(n:Nat)(own Y:Nat->Prop)(j':(Nat->Option Nat)×(Nat->Option (bI×Nat))):cF:=
 { C with ep:=w,jA:=F',K0:=λr=>r<w.heap.size/\¬own r/\¬Y r,bV:=n,dj:=[],r:=none,j':=j'.1,Pz:=j'.2 }
structure GS(C:cF)(s:aC)(w:World)(kap:Nat->bI)(F:Nat->Prop)(sl:aL)(Y:Nat->Prop):Prop where
 e7:∀ l aI ab n ad,sl=.aR l aI ab n ad->(∃ I,C.cG=⟨l,aI,ab,I⟩)/\C.cG.j1 C.P/\C.cG.at aI n ad F Y w
 low:∀ r,Y r->r<w.heap.size/\¬F r/\¬C.K0 r
 own:∀ b,(s.aa b).body.cd (kap b)=true->¬Y (kap b).aa
 Lm:sl=.undef->∀ r,¬Y r
 bQ:∀ r,k7 s.aa r->¬Y r
theorem bw.aqd(D:bw C s a w kap F){sl:aL}(h:∀ l aI ab n ad,sl=.aR l aI ab n ad->s.az ca=.aR l aI ab n ad):∃ Y,GS C s w kap F sl Y:=by
 by_cases ay:∃ l aI ab n ad,sl=.aR l aI ab n ad
 ·obtain⟨l,aI,ab,n,ad,e⟩:=ay;obtain⟨E,L,Y,ak,aZ,bP⟩:=D.e7 l aI ab n ad (h _ _ _ _ _ e);refine⟨Y,⟨λet mX gf kf lk aY=>?_,ak,aZ,λaY=>?_,λr aj=>((D.bQ.nX aj).1 _ _ _ _ _ (h _ _ _ _ _ e)).elim⟩⟩<;>grind
 ·exact⟨λ_=>False,⟨λl aI ab n ad e=>(ay ⟨l,aI,ab,n,ad,e⟩).elim,λ_ h=>h.elim,λ_ _ h=>h,λ_ _ h=>h,λ_ _ h=>h⟩⟩
theorem aqe{C1:cF}{s1:aC}{cw:Act}{F':Nat->Prop}{b9:List Nat}{f:Nat->Nat}{sh:eE}{A:sh.al}{Y:Nat->Prop}{ids:List Nat}(jU:C1.P=C.P)(ve:C1.aU=C.aU)(xh:C1.dj=[])
  (gn:bw C1 (s1.cC b9) cw w kap F') (aw:Le C1 s1 cw w kap f F' sh A b9) (jk:GS C (s1.cC b9) w kap F' ((sh.ad A).az ca) Y)
  (ax:∀ b bf,b∈sh.rH->bf∈sh.rH->f b=f bf->b=bf) (hid:∀ b∈ids,fE<=b) (ZD:f cx=cx) :
  bw (vw C w F' C1.bV (λr=>(∃ b,((sh.ad A).aa b).body.cd (kap (f b))=true/\(kap (f b)).aa=r)\/k7 (sh.ad A).aa r) Y (λb=>if b∈ids then some (kap (f b)).aa else none,λb=>if b∈ids/\yh<=b then some (kap (f b),((sh.ad A).aa b).body.len) else none)) (sh.ad A) cw w (λb=>kap (f b)) F' where
 dX:=gn.dX
 dj:=gn.dj.trans xh
 bX:=λi=>by have:=aw.bX i;rw[jU]at this;exact this
 bC:=λb=>by have:=aw.bC b;rw[jU]at this;exact this
 own:=λb U=>by
  have E:=gn.own (f b) (aw.xg U);exact⟨E.1,E.2.1,λh=>h.2.1 (.inl ⟨b,U,rfl⟩)⟩
 inj:=λb bf U eg e=>ax b bf (aw.cd b U).2.2 (aw.cd bf eg).2.2 (gn.inj _ _ (aw.xg U) (aw.xg eg) e)
 dr:=gn.dr
 hQ:=λr D=>.inl D
 iq:=λr D=>D
 ir:=λr D=>D.1
 e2:=λ_ _=>rfl
 size:=amo _
 eN:=dM.refl _
 hE:=gn.hE
 k8:=λb r h=>by
  grind [vw]
 iY:=λb r h _=>by
  grind [vw]
 k9:=λb k h=>by
  grind [vw]
 jB:=λb k h _ _=>by
  grind [vw]
 e7:=λl aI ab n ad e=>by
  obtain⟨E,L,ak⟩:=jk.e7 l aI ab n ad e;exact⟨E,L,Y,λr D=>⟨(jk.low r D).1,(jk.low r D).2.1,λh=>h.2.2 D⟩,λb U=>jk.own _ (aw.xg U),ak⟩
 bQ:=λe m hm=>by
  rcases aw.bQ cx e m hm with k | rfl
  ·have k':((s1.cC b9).aa cx).body=.bQ e m:=by
    grind [aC.cC,fN]
   obtain⟨e8,e_⟩:=gn.bQ e m k';refine⟨e8,λid xs ao=>?_⟩;obtain⟨nn,cO,cJ,gT,ly,cu⟩:=e_ id xs ao;refine⟨λl aI ab n ad aG=>nn l aI ab n ad (aw.aR l aI ab n ad aG),cO,cJ,λh=>h.2.1 (.inr ⟨e,m,xs,hm,ao⟩),λb U=>ly _ (aw.xg U),?_⟩;rw[jU]at cu;exact cu
  simp
 j2:=by have:=gn.j2;rw[jU,ve]at this;exact this
 hW:=by have:=gn.hW;rw[jU]at this;exact this
structure aah(s:aC)(kap:Nat->bI)(j':(Nat->Option Nat)×(Nat->Option (bI×Nat)))(dz:List (Nat×b8))(cq:z8'):Prop where
 eB:(cq.map (·.1)).Nodup
 eC:(cq.map (·.2.1)).Nodup
 ey:sP ∉ cq.map (·.2.1)
 aqf:(s.aa sP).body=.ey
 aai:∀ p∈cq,(p.2.1<fE/\(s.aa p.2.1).gen<p.2.2)\/
  (((eQ dz p.1).body.hl=true->(s.aa p.2.1).body.hl=true/\j'.1 p.1=some (kap p.2.1).aa)/\((eQ dz p.1).body.iX=true->(s.aa p.2.1).body.iX=true/\j'.1 p.1=some (kap p.2.1).aa)/\(eQ dz p.1).body.qK=false/\
   ((p.2.2=(s.aa p.2.1).gen/\((eQ dz p.1).body.gS=true->(s.aa p.2.1).body.gS=true/\(eQ dz p.1).body.gJ=(s.aa p.2.1).body.gJ/\j'.2 p.1=some (kap p.2.1,(s.aa p.2.1).body.len)))\/p.2.2=(s.aa p.2.1).gen+1))
theorem aqg{F' own Y:Nat->Prop}{sl:aL}{n:Nat}{j':(Nat->Option Nat)×(Nat->Option (bI×Nat))}{ins:List Nat}{a7:eE}{bk:a7.al}{aH:List Value}{w':World}{py:Nat->bI}{fV:Nat->Prop}
    (D:bw C s a w kap F') (jk:GS C s w kap F' sl Y) (eJ:∀ r,own r->(∃ b,b∈ins/\(s.aa b).body.cd (kap b)=true/\(kap b).aa=r)\/k7 s.aa r)
    (iZ:bw { vw C w F' n own Y j' with bV:=aH.length } (a7.ad bk) { tmps:=aH.toArray,defers:=[] } w' py fV)
    {cq:z8'} (fq:aah s kap j' (gY (gL cq) a7.bC (eU (gL cq) a7.bX bk).2) cq)
    (GU:∀ r,own r->k7 s.aa r->cx∈cq.map (·.2.1)) (GV:∀ p∈cq,p.2.1=cx->(p.1=cx/\∀ l aI ab n ad,s.az ca≠.aR l aI ab n ad)\/(eQ (gY (gL cq) a7.bC (eU (gL cq) a7.bX bk).2) p.1).body.l3=false)
    (KB:(s.aa cx).body.l3=true->∀ l aI ab n ad,fi (eU (gL cq) a7.bX bk).1 ca≠.aR l aI ab n ad)
    {H':Nat->b7} {kapn:Nat->bI} (A5:∀ p∈cq,H' p.2.1=⟨p.2.2,(eQ (gY (gL cq) a7.bC (eU (gL cq) a7.bX bk).2) p.1).body⟩/\kapn p.2.1=py p.1)
    (w_:∀ b,b ∉ cq.map (·.2.1)->kapn b=kap b/\(b∈ins->H' b=⟨(s.aa b).gen+1,.ey⟩)/\(b ∉ ins->H' b=s.aa b))
    {X:aL} (yI:X=fi (eU (gL cq) a7.bX bk).1 ca\/X=.undef\/(X=s.az ca/\sl=.undef)) :
    bw C ⟨λi=>if i=ca then X else s.az i,H'⟩ a w' kapn fV/\
    ∀ i,bJ C.P H' kapn fV w' (fi (eU (gL cq) a7.bX bk).1 i) (aH.toArray.getD i undef):=by
  generalize sS:gY (gL cq) a7.bC (eU (gL cq) a7.bX bk).2=dz at fq A5 GV;have vp:∀ b,A3 (eQ dz b).body ((a7.ad bk).aa b).body:=λb=>by
    rw[<-sS,Ry (Lk a7.bX bk)];exact Z' a7.bC (eU du a7.bX bk).2 b
  have uq:rN (a7.ad bk).aa H' py kapn (gL cq):=by
    intro b;refine⟨Rz _ b,?_⟩;by_cases U:b∈cq.map (·.1)
    · obtain⟨p,aj,rfl⟩:=List.mem_map.1 U
      rw[aab fq.eB aj]
      obtain⟨E,L⟩:=A5 p aj
      rw[E,L]
      obtain⟨aM,aS,b4,hZ,sJ,xi,_⟩:=vp p.1
      exact⟨amo _,λ_=>⟨λh=>⟨aM ▸ h,rfl⟩,λh=>⟨aS ▸ h,rfl,b4,hZ⟩,λh=>⟨sJ ▸ h,rfl⟩,λh=>⟨xi ▸ h,rfl⟩⟩⟩
    · rw[aac U]
      obtain⟨_,L,ak⟩:=w_ sP fq.ey
      have aw:(H' sP).body=.ey:=by
        by_cases G:sP∈ins
        · grind
        · rw[ak G];exact fq.aqf
      refine⟨aPK _,λ_=>?_⟩
      rw[aw]
      exact⟨λh=>(by cases h),λh=>(by cases h),λh=>(by cases h),λh=>(by cases h)⟩
  have GW:∀ b,(∃ p∈cq,p.2.1=b)\/b ∉ cq.map (·.2.1):=λb=>by
    grind
  have Ln:∀ p∈cq,∀ r,j'.1 p.1=some r->(eQ dz p.1).body.hl=true\/(eQ dz p.1).body.iX=true->(py p.1).aa=r:=λp aj r D h=>by
    obtain⟨aM,_,_,_,sJ,_⟩:=vp p.1;exact iZ.iY p.1 r D (h.imp (λh=>aM ▸ h) (λh=>sJ ▸ h))
  have aLL:∀ p∈cq,∀ k,j'.2 p.1=some k->(eQ dz p.1).body.gS=true->py p.1=k.1/\(eQ dz p.1).body.len=k.2:=λp aj k an h=>by
    obtain⟨_,aS,b4,_⟩:=vp p.1;obtain⟨E,L⟩:=iZ.jB p.1 k an (Rz _ _) (aS ▸ h);grind
  have ah:fL s.aa kap H' kapn:=by
    intro b;rcases GW b with⟨p,aj,rfl⟩ | U
    · obtain⟨E,L⟩:=A5 p aj
      rw[E,L]
      rcases fq.aai p aj with⟨_,h⟩ | ⟨hc,hm,hit,h⟩
      · exact⟨Nat.le_of_lt h,λe=>(by grind)⟩
      · rcases h with⟨h,ga⟩ | h
        · refine⟨aRi h.symm,λ_=>⟨λh=>⟨(hc h).1,Ln p aj _ (hc h).2 (.inl h)⟩,λh=>?_,λh=>⟨(hm h).1,Ln p aj _ (hm h).2 (.inr h)⟩,λh=>?_⟩⟩<;>grind
        · exact⟨by grind,λe=>(by grind)⟩
    · obtain⟨E,L,ak⟩:=w_ b U
      rw[E]
      by_cases G:b∈ins
      · rw[L G]
        exact⟨Nat.le_succ _,λe=>(by grind)⟩
      · rw[ak G];exact tM.refl _ _
  have Dp:=iZ.size;have bm:=iZ.iq;have kG:∀ r,r<w.heap.size->¬own r->¬Y r->w'.heap[r]?=w.heap[r]?:=λr E L ak=>iZ.e2 r ⟨E,L,ak⟩;have yJ:=λr h=>aPB (D.ir r h) D.size;have RB:∀ r,own r->¬C.K0 r/\¬F' r:=λr h=>by
    rcases eJ r h with⟨b,_,E,rfl⟩ | aj
    · exact⟨(D.own b E).2.2,(D.own b E).2.1⟩
    · exact⟨(D.bQ.nX aj).2.2.2.1,(D.bQ.nX aj).2.2.1⟩
  have RC:∀ r,¬(r<w.heap.size/\¬own r/\¬Y r)->¬C.K0 r:=λr h an=>h ⟨yJ r an,λar=>(RB r ar).1 an,λa_=>(jk.low r a_).2.2 an⟩;have rO:di F' w w':=⟨Dp,λr h=>kG r (D.dr r h) (λar=>(RB r ar).2 h) λa_=>(jk.low r a_).2.1 h⟩
  have w8:∀ r,fV r->F' r\/¬(r<w.heap.size/\¬own r/\¬Y r):=iZ.hQ;have rM:∀ b,b ∉ ins->(s.aa b).body.cd (kap b)=true->(kap b).aa<w.heap.size/\¬own (kap b).aa/\¬Y (kap b).aa:=λb U ar=>by
    refine⟨(D.own b ar).1,λh=>?_,jk.own b ar⟩;rcases eJ _ h with⟨bf,E,L,ak⟩ | aj
    · exact U (D.inj bf b L ar ak ▸ E)
    · exact (D.bQ.nX aj).2.2.2.2 b ar rfl
  have yj:∀ b,(H' b).body.cd (kapn b)=true->(∃ p∈cq,p.2.1=b/\((a7.ad bk).aa p.1).body.cd (py p.1)=true/\kapn b=py p.1)\/(b ∉ cq.map (·.2.1)/\b ∉ ins/\kapn b=kap b/\(s.aa b).body.cd (kap b)=true):=λb U=>by
    rcases GW b with⟨p,aj,rfl⟩ | aA
    · obtain⟨E,L⟩:=A5 p aj
      rw[E,L]at U
      exact .inl ⟨p,aj,rfl,by rw[<-(vp p.1).2.2.2.2.2.2];omega,L⟩
    · obtain⟨E,L,ak⟩:=w_ b aA
      by_cases G:b∈ins
      · rw[L G]at U;cases U
      grind
  have fH:∀ i,bJ C.P H' kapn fV w' (fi (eU (gL cq) a7.bX bk).1 i) (aH.toArray.getD i undef):=λi=>uq.bX a7.bX bk i (iZ.bX i);refine⟨{ dX := D.dX, dj := D.dj, bX := λi => ?_, bC := λb => ?_, own := λb U => ?_, inj := λb bf U eg e => ?_, dr := iZ.dr, hQ := λr h => ?_, iq := λr h => bm r (D.iq r h), ir := D.ir, e2 := λr h => ?_,size:=aPG D.size Dp,eN:=D.eN.trans iZ.eN,hE:=D.hE,k8:=D.k8,iY:=λb r h hc=>?_,k9:=D.k9,jB:=λb k h aV aW=>?_,e7:=λl aI ab m ad e=>?_,bQ:=λe m hm=>?_,j2:=D.j2,hW:=iZ.hW },fH⟩
  · show bJ C.P H' kapn fV w' (if i=ca then X else s.az i) _
    split
    · rename_i e
      subst e
      have hu:a.tmps.getD ca undef=undef:=by
        have:=D.dX;have:=D.hE;rw[aPz,Array.getElem?_eq_none (by unfold ca fE at *;omega)];rfl
      rcases yI with rfl | rfl | ⟨rfl,_⟩
      · have GX:aH.toArray.getD ca undef=undef:=by
          have:aH.length<=fE:=iZ.hE;rw[aPz,Array.getElem?_eq_none (by simp;unfold ca fE at *;omega)];rfl
        grind
      · trivial
      · exact bJ.later ah bm rO (D.bX ca)
    · exact bJ.later ah bm rO (D.bX i)
  · show mu C.P H' kapn fV w' (kapn b) (H' b).body
    rcases GW b with⟨p,aj,rfl⟩ | aA
    · obtain⟨E,L⟩:=A5 p aj
      rw[E,L,<-sS,Ry (Lk a7.bX bk)]
      exact uq.bC a7.bC (eU du a7.bX bk).2 p.1 (iZ.bC p.1)
    · obtain⟨E,L,ak⟩:=w_ b aA
      by_cases G:b∈ins
      · rw[L G];trivial
      · have:=c7.k6     (D.bC b) ah bm rO (by grind) E λar=>kG _ (rM b G ar).1 (rM b G ar).2.1 (rM b G ar).2.2
        exact this
  · rcases yj b U with⟨p,aj,_,E,L⟩ | ⟨_,E,L,ak⟩
    · have:=iZ.own p.1 E
      rw[L]
      exact⟨this.1,this.2.1,RC _ this.2.2⟩
    · have aZ:=D.own b ak
      grind
  · rcases yj b U with⟨p,aj,rfl,E,L⟩ | ⟨_,E,L,ak⟩<;>rcases yj bf eg with⟨p',Al,rfl,CX,tX⟩ | ⟨_,CX,tX,aaj⟩
    · rw[L,tX]at e
      have:=iZ.inj _ _ E CX e
      rw[GR fq.eB aj Al this]
    · rw[L,tX]at e
      exact ((iZ.own p.1 E).2.2 (e ▸ rM bf CX aaj)).elim
    · rw[L,tX]at e
      exact ((iZ.own p'.1 CX).2.2 (e ▸ rM b E ak)).elim
    · rw[L,tX]at e
      exact D.inj b bf ak aaj e
  · rcases w8 r h with h | h
    · exact D.hQ r h
    grind
  · exact (kG r (yJ r h) (λar=>(RB r ar).1 h) λa_=>(jk.low r a_).2.2 h).trans (D.e2 r h)
  · have aG:=D.k8 b r h
    rcases GW b with⟨p,aj,rfl⟩ | aA
    · obtain⟨E,L⟩:=A5 p aj
      simp  [E]at hc
      rcases fq.aai p aj with⟨ak,_⟩ | ⟨aM,aS,_⟩
      · omega
      · rw[L]
        rcases hc with hc | hc
        · rw[Ln p aj _ (aM hc).2 (.inl hc)]
          exact D.iY _ r h (.inl (aM hc).1)
        · rw[Ln p aj _ (aS hc).2 (.inr hc)]
          exact D.iY _ r h (.inr (aS hc).1)
    · obtain⟨E,L,ak⟩:=w_ b aA
      by_cases G:b∈ins
      · simp  [L G]at hc
        rcases hc with hc | hc<;>cases hc
      · simp  [ak G]at hc
        rw[E]
        exact D.iY b r h hc
  · have aV:(H' b).gen=0:=aV
    obtain⟨dx,ec⟩:=ah b
    obtain⟨cw,b2,ef,_⟩:=(ec (by omega)).2.1 aW
    obtain⟨aM,aS⟩:=D.jB b k h (by omega) cw
    grind
  · rcases yI with rfl | rfl | ⟨rfl,aqh⟩
    · obtain⟨E,L,jh,ak,aZ,bP⟩:=iZ.e7 l aI ab m ad (Rx a7.bX bk ca e)
      refine⟨E,L,jh,λr bj=>⟨(ak r bj).1,(ak r bj).2.1,RC r (ak r bj).2.2⟩,λb U a_=>?_,bP⟩
      rcases yj b U with⟨p,aj,rfl,aM,aS⟩ | ⟨_,aM,aS,b4⟩
      · grind
      · rw[aS]at a_;exact (ak _ a_).2.2 (rM b aM b4)
    · grind
    · obtain⟨E,L,jh,ak,aZ,bP⟩:=D.e7 l aI ab m ad e
      have aak:∀ r,jh r->r<w.heap.size/\¬own r/\¬Y r:=λr a_=>⟨(ak r a_).1,λar=>by
        rcases eJ r ar with⟨b,_,aM,rfl⟩ | aj
        · exact aZ b aM a_
        · exact (D.bQ.nX aj).1 _ _ _ _ _ e,jk.Lm aqh r⟩
      have FH:=λr ax a_=>(w8 r ax).elim (ak r a_).2.1 λh=>h (aak r a_)
      refine⟨E,L,jh,λr a_=>⟨aPB (ak r a_).1 Dp,λax=>FH r ax a_,(ak r a_).2.2⟩,λb U a_=>?_,L.JT bP bm (λr ax=>?_) Dp iZ.eN iZ.dr FH⟩
      · rcases yj b U with⟨p,aj,rfl,aM,aS⟩ | ⟨_,aM,aS,b4⟩
        · rw[aS]at a_;exact (iZ.own _ aM).2.2 (aak _ a_)
        grind
      · rcases ax with ax | ax
        · exact rO.2 r ax
        grind
  · have sG:(H' cx).body=.bQ e m:=hm
    rcases GW cx with⟨p,aj,RD⟩ | aA
    · obtain⟨E,L⟩:=A5 p aj
      rw[RD]at E
      rw[E]at sG
      have sG:(eQ dz p.1).body=.bQ e m:=sG
      rcases GV p aj RD with⟨C5,aal⟩ | h_
      · have cS:((a7.ad bk).aa p.1).body=.bQ e m:=by
          rw[<-sS,Ry (Lk a7.bX bk)]at sG;exact aaa a7.bC _ p.1 sG
        rw[C5]at cS
        obtain⟨e8,e_⟩:=iZ.bQ e m cS
        refine⟨e8,λid xs ao=>?_⟩
        obtain⟨nn,cO,cJ,gT,ly,cu⟩:=e_ id xs ao
        refine⟨λl aI ab n ad aG=>?_,cO,cJ,RC _ gT,λb U aY=>?_,cu⟩
        · have aG:X=.aR l aI ab n ad:=by simpa using aG
          rcases yI with rfl | rfl | ⟨rfl,_⟩
          · exact nn _ _ _ _ _ (Rx a7.bX bk ca aG)
          · cases aG
          · exact aal _ _ _ _ _ aG
        · rcases yj b U with⟨p',Al,rfl,aM,aS⟩ | ⟨_,aM,aS,b4⟩
          · rw[aS]at aY;exact ly _ aM aY
          · rw[aS]at aY;exact gT (aY ▸ rM b aM b4)
      · rw[sG]at h_;cases h_
    · obtain⟨E,L,ak⟩:=w_ cx aA
      by_cases G:cx∈ins
      · grind
      · rw[ak G]at sG
        obtain⟨e8,e_⟩:=D.bQ e m sG
        refine⟨e8,λid xs ao=>?_⟩
        obtain⟨nn,cO,cJ,gT,ly,cu⟩:=e_ id xs ao
        have aam:k7 s.aa id:=⟨e,m,xs,sG,ao⟩
        have h_:=λar=>aA (GU id ar aam)
        have RE:=jk.bQ id aam
        refine⟨λl aI ab n ad aG=>?_,aPB cO Dp,λax=>(w8 _ ax).elim cJ λh=>h ⟨cO,h_,RE⟩,gT,λb U aY=>?_,cu.mono bm rO (kG id cO h_ RE)⟩
        · rcases yI with rfl | rfl | ⟨rfl,_⟩
          · exact KB (by rw[sG];rfl) _ _ _ _ _ aG
          · grind
          grind
        · rcases yj b U with⟨p',Al,rfl,aM,aS⟩ | ⟨_,aM,aS,b4⟩
          · rw[aS]at aY;exact (iZ.own _ aM).2.2 (aY ▸ ⟨cO,h_,RE⟩)
          grind
end
end Go.Fer
namespace Go.Fer
open Go.RowKit
section
variable {C:cF} {T:Nat->V} {o:Oper} {s:aC}
variable {k:FuncId}{c:cL}{a:Act}{w:World}{kap:Nat->bI}{F:Nat->Prop}
theorem cW.gb{P:Program}{aP:dV}(ax:cW P aP k c){C:cF}{A:c.cA.al}(h:bw C (c.cA.ad A) a w kap F)(E:C.P=P)(L:C.ep=w)(ak:C.r=none)(aZ:C.dj=[])(bP:C.bV=c.kU)(ej:C.aU=aP)(ay:(c.sh A).fm) :
  Calls P k a.tmps w λe w'=>∃ v bk aH bR F',e=.returned v/\(c.sh A).a7 bk/\Lj c.lh v aH/\bw { C with bV:=aH.length } (c.a7.ad bk) { tmps:=aH.toArray,defers:=[] } w' bR F':=
 ax.ik C a w kap F A E L ak aZ bP ej h ay
theorem aan{C:cF}{s:aC}{RF:Nat->aL}{cw:Act}{eB:Nat}{f:Nat->Nat}{A:c.cA.al}{b9:List Nat}{d m:Nat}{cq:z8'}
    (D:bw C s a w kap F) (gn:bw { C with bV:=eB,dj:=[],r:=none } ⟨RF,s.aa⟩ cw w kap F) (q1:RF ca=s.az ca)
    (qh:c.cA.Dd f ⟨RF,s.aa⟩=some (A,b9)) (RG:sQ (s.cC b9) d f c.cA.rH c.a7.bC 0=cq) (e3:GH c f (s.cC b9) cq d m=true) :
    ∃ (F' own Y:Nat->Prop) (j':(Nat->Option Nat)×(Nat->Option (bI×Nat))),(∀ r,F r->F' r)/\bw C (s.cC b9) a w kap F'/\(∀ r,own r->(∃ b,((s.cC b9).aa b).body.cd (kap b)=true/\(kap b).aa=r)\/k7 (s.cC b9).aa r)/\GS C (s.cC b9) w kap F' ((c.cA.ad A).az ca) Y/\(∀ l aI ab n ad,(c.cA.ad A).az ca=.aR l aI ab n ad->s.az ca=.aR l aI ab n ad)/\
      bw (vw C w F' eB own Y j') (c.cA.ad A) cw w (λb=>kap (f b)) F'/\
      ∀ RH jC,bw { C with ep:=RH } (s.cC b9) a jC kap F'->GS C (s.cC b9) jC kap F' ((c.cA.ad A).az ca) Y->∀ (bk:c.a7.al) (aH:List Value) (w':World) (py:Nat->bI) (fV:Nat->Prop),bw { vw C jC F' eB own Y j' with bV:=aH.length } (c.a7.ad bk) { tmps:=aH.toArray,defers:=[] } w' py fV->
        ∃ kapn,bw { C with ep:=RH } (AQ (s.cC b9) c f cq bk) a w' kapn fV/\∀ i,bJ C.P (AQ (s.cC b9) c f cq bk).aa kapn fV w' (fi (eU (gL cq) c.a7.bX bk).1 i) (aH.toArray.getD i undef):=by
  simp only[GH,amn,amq,aPH]at e3;obtain⟨⟨⟨⟨⟨⟨⟨⟨⟨⟨⟨bE,c2⟩,c3⟩,c4⟩,c5⟩,pk⟩,rC⟩,yo⟩,c9⟩,RI⟩,_⟩,GY,c12,aao⟩:=e3;have c3:(c.cA.bC.map (·.1)).Nodup:=aP6 c3;have c4:(c.cA.bC.map λp=>f p.1).Nodup:=aP6 c4;have c5:(cq.map (·.1)).Nodup:=aP6 c5;have pk:(cq.map (·.2.1)).Nodup:=aP6 pk;have yo:sP ∉ cq.map (·.2.1):=λh=>by
    rw[List.contains_iff_mem.2 h]at yo;cases yo
  have c9:((s.cC b9).aa sP).body=.ey:=by
    split at c9
    · rename_i e;exact e
    · cases c9
  obtain⟨F',f1,gn,aw⟩:=eE.Z5 qh gn;have bj : bw C (s.cC b9) a w kap F' := { gn with
    dX:=D.dX,dj:=D.dj,hE:=D.hE,bX:=λi=>bJ.later (YK s b9 kap) f1 (di.refl _ _) (D.bX i)
    bC:=gn.bC
    e7:=λl aI ab n ad e=>gn.e7 l aI ab n ad (by simpa [aC.cC,q1]using e)
    bQ:=wR.bX (C:={ C with bV:=eB,dj:=[],r:=none }) gn.bQ rfl λl aI ab n ad e=>by simpa [aC.cC,q1]using e }
  obtain⟨Y,jk⟩:=bj.aqd (sl:=(c.cA.ad A).az ca) λl aI ab n ad e=>by simpa [aC.cC,q1]using aw.aR l aI ab n ad e
  have hid:∀ b∈c.cA.bC.map (·.1),fE<=b:=λb U=>by simpa using List.all_eq_true.1 rC b U
  have GZ:∀ b,b∈c.cA.rH->∃ q∈c.cA.bC,q.1=b/\q.2.GB=true:=λb U=>by
    obtain⟨q,bq,e⟩:=List.mem_filterMap.1 U;split at e
    · cases e;exact⟨q,bq,rfl,by assumption⟩
    · cases e
  have G0:=aqe (C:=C) (C1:={ C with bV:=eB,dj:=[],r:=none }) (ids:=c.cA.bC.map (·.1)) rfl rfl rfl gn aw ⟨jk.e7,jk.low,jk.own,jk.Lm,jk.bQ⟩ (λb bf U eg e=>by
    obtain⟨q,bq,rfl,_⟩:=GZ b U;obtain⟨q',vg,rfl,_⟩:=GZ bf eg;rw[GR (k:=λp=>f p.1) c4 bq vg e]) hid c12
  have aap:∀ r,k7 (c.cA.ad A).aa r->k7 (s.cC b9).aa r:=λr ⟨e,m,xs,E,L⟩=>by
    rcases aw.bQ cx e m E with k | rfl
    · rw[c12]at k
      have k':((s.cC b9).aa cx).body=.bQ e m:=by
        simp only[aC.cC];have k:(s.aa cx).body=.bQ e m:=k;split
        · simp[fN,k]
        · exact k
      exact⟨e,m,xs,k',L⟩
    · cases L
  refine⟨F',_,Y,_,f1,bj,λr h=>h.imp (λ⟨b,U,e⟩=>⟨f b,aw.xg U,e⟩) (aap r),jk,λl aI ab n ad e=>by simpa [aC.cC,q1]using aw.aR l aI ab n ad e,G0,λRH jC Qo G1 bk aH w' py fV iZ=>?_⟩;have sS:∀ (b:Nat) (q':Nat×b'),q'∈c.a7.bC->q'.1=b->b∈c.cA.rH->∀ (R:Type) (z:q'.2.cons R),((q'.2.body (gL cq) z).1.hl=true->((s.cC b9).aa (f b)).body.hl=true)/\((q'.2.body (gL cq) z).1.iX=true->((s.cC b9).aa (f b)).body.iX=true)/\(q'.2.body (gL cq) z).1.qK=false:=by
    intro b q' vg e U R z;obtain⟨q,bq,rfl,RJ⟩:=GZ b U;have an:=List.all_eq_true.1 (List.all_eq_true.1 RI q' vg) q bq;rw[e,RJ]at an;simp only[beq_self_eq_true,Bool.and_self,aP9,aQo]at an;rcases A4 du c.cA.bC (eU du c.cA.bX A).2 q.1 with⟨_,L⟩ | ⟨cJ,L,ak,uo,oO,aZ⟩
    · exact (L (aQa bq)).elim
    · obtain rfl:=GR c3 L bq ak
      have aZ:(c.cA.ad A).aa cJ.1=⟨0,(cJ.2.body du oO).1⟩:=aZ
      obtain⟨aM,aS,b4⟩:=aqb an z oO (g:=gL cq) (g':=du)
      have xf:=aw.Dk cJ.1
      refine⟨λhc=>?_,λhc=>?_,b4⟩
      · have bP:=aw.cd cJ.1 (by rw[aZ];exact (aM hc).2 _)
        simp only[aC.cC,if_neg bP.1]
        exact xf.2.1 (by rw[aZ];exact (aM hc).1)
      · have bP:=aw.cd cJ.1 (by rw[aZ];exact (aS hc).2 _)
        simp only[aC.cC,if_neg bP.1]
        exact xf.2.2.2.1 (by rw[aZ];exact (aS hc).1)
  have aaq:cq.map (·.1)=c.a7.bC.map (·.1):=by rw[<-RG];exact aad ..
  have fq:aah (s.cC b9) kap (λb=>if b∈c.cA.bC.map (·.1) then some (kap (f b)).aa else none,λb=>if b∈c.cA.bC.map (·.1)/\yh<=b then some (kap (f b),((c.cA.ad A).aa b).body.len) else none) (gY (gL cq) c.a7.bC (eU (gL cq) c.a7.bX bk).2) cq:=by
    refine⟨c5,pk,yo,c9,λp aj=>?_⟩;rw[<-RG]at aj;rcases aae _ _ _ _ _ _ aj with⟨E,L,t,ak,aZ⟩ | ⟨_,L,ak,aZ⟩ | ⟨E,e,L⟩
    · rw[L]
      have ob:p.1∈c.cA.bC.map (·.1):=by
        obtain⟨q,bq,e,_⟩:=GZ _ E;exact e ▸ aQa bq
      rcases A4 (gL cq) c.a7.bC (eU (gL cq) c.a7.bX bk).2 p.1 with⟨_,aS⟩ | ⟨q',aM,aS,R,z,b4⟩
      · exact (aS (aQa (f:=(·.1)) ak)).elim
      · rw[b4]
        obtain⟨cY,fe,iV⟩:=sS p.1 q' aM aS E R z
        have:q'=(p.1,t):=GR (aaq ▸ c5) aM ak aS
        subst this
        refine .inr ⟨λh=>⟨cY h,if_pos ob⟩,λh=>⟨fe h,if_pos ob⟩,iV,aZ.imp (λaZ=>⟨aZ.1,λga=>?_⟩) id⟩
        rcases aZ.2 with bP | ⟨an,e,rfl⟩
        · have:=bP (gL cq) R z
          have ga:(t.body (gL cq) z).1.gS=true:=ga
          rw[this]at ga;cases ga
        · obtain⟨q,bq,Lh,RJ⟩:=GZ p.1 E
          have A6:=List.all_eq_true.1 (List.all_eq_true.1 RI _ aM) q bq
          rw[Lh,RJ]at A6
          simp only[beq_self_eq_true,Bool.and_self,aP9,aQo]at A6
          rcases A4 du c.cA.bC (eU du c.cA.bX A).2 p.1 with⟨_,tX⟩ | ⟨cJ,m2,m3,uo,oO,m4⟩
          · exact (tX (Lh ▸ aQa bq)).elim
          · obtain rfl:=GR c3 m2 bq (m3.trans Lh.symm)
            have m4:(c.cA.ad A).aa p.1=⟨0,(cJ.2.body du oO).1⟩:=m4
            obtain⟨cO,RL⟩:=cJ
            have A6:b'.KI (.bl e) RL=true:=A6
            obtain rfl:RL=.bl e:=by
              cases RL<;>first | (simp only[b'.KI,amq]at A6;rw[A6]) | cases A6
            have xf:=aw.Dk p.1
            have aqi:((c.cA.ad A).aa p.1).body.gS=true:=by rw[m4];rfl
            obtain⟨ck,c8,fB⟩:=xf.2.2.1 aqi
            have bA:((s.cC b9).aa (f p.1)).body.gS=true/\((s.cC b9).aa (f p.1)).body.len=(s.aa (f p.1)).body.len/\((s.cC b9).aa (f p.1)).body.gJ=(s.aa (f p.1)).body.gJ:=by
              simp only[aC.cC];split
              · rcases An s.aa (s.aa (f p.1)) with aY | ⟨_,_,ao,aY⟩ | ⟨_,_,_,ao,_⟩ | ⟨_,_,_,_,ao,_,_⟩
                · rw[aY];exact⟨ck,rfl,rfl⟩
                · rw[aY,ao];exact⟨rfl,rfl,rfl⟩
                · have ck:(s.aa (f p.1)).body.gS=true:=ck
                  rw[ao]at ck;cases ck
                · have ck:(s.aa (f p.1)).body.gS=true:=ck
                  rw[ao]at ck;cases ck
              · exact⟨ck,rfl,rfl⟩
            have c8:((c.cA.ad A).aa p.1).body.len=(s.aa (f p.1)).body.len:=c8
            have fB:((c.cA.ad A).aa p.1).body.gJ=(s.aa (f p.1)).body.gJ:=fB
            refine⟨bA.1,?_,?_⟩
            · rw[bA.2.2,<-fB,m4];rfl
            · rw[bA.2.1,<-c8]
              exact if_pos ⟨ob,an⟩
    · refine .inl ⟨?_,by rw[L];exact aQl _⟩
      unfold fE
      omega
    · have RM:=aag (gL cq) c.a7.bC (eU (gL cq) c.a7.bX bk).2 (aaq ▸ c5) L
      refine .inr ?_
      rcases RM with⟨dp,RM⟩
      rw[RM,E]
      exact⟨λh=>(by cases h),λh=>(by cases h),rfl,.inl ⟨rfl,λh=>(by cases h)⟩⟩
  simp only[ZO,amn,aPO,aPH,aP4,amq]at GY;obtain⟨⟨GY,G2⟩,aqj⟩:=GY;have aqk:∀ q∈c.a7.bC,q.2.l3=true->cx∈cq.map (·.2.1):=λq bq A7=>by
    rw[<-RG];exact aaf _ _ _ _ _ _ bq A7
  have GU:∀ r,(∃ b,((c.cA.ad A).aa b).body.cd (kap (f b))=true/\(kap (f b)).aa=r)\/k7 (c.cA.ad A).aa r->k7 (s.cC b9).aa r->cx∈cq.map (·.2.1):=λr h aj=>by
    rcases h with⟨b,U,e⟩ | ⟨e,m,xs,E,L⟩
    · exact ((bj.bQ.nX aj).2.2.2.2 (f b) (aw.xg U) e).elim
    · rcases A4 du c.cA.bC (eU du c.cA.bX A).2 cx with⟨k,_⟩ | ⟨q,aM,aS,R,z,b4⟩
      · have k:(c.cA.ad A).aa cx=_:=k
        rw[k]at E;cases E
      · have b4:(c.cA.ad A).aa cx=_:=b4
        rw[b4]at E
        have A7:q.2.l3=true:=by
          obtain⟨cO,cJ⟩:=q;cases cJ<;>first | rfl | cases E
        rcases G2 with G2 | G2
        · have:=List.any_eq_false.1 G2 q aM
          rw[A7]at this;exact (this rfl).elim
        · obtain⟨q',vg,aql⟩:=List.any_eq_true.1 G2
          exact aqk q' vg aql
  have GV:∀ p∈cq,p.2.1=cx->(p.1=cx/\∀ l aI ab n ad,(s.cC b9).az ca≠.aR l aI ab n ad)\/(eQ (gY (gL cq) c.a7.bC (eU (gL cq) c.a7.bX bk).2) p.1).body.l3=false:=λp aj RD=>by
    by_cases bq:∃ e,(p.1,b'.bQ e)∈c.a7.bC
    · obtain⟨e,bq⟩:=bq
      refine .inl ⟨?_,λl aI ab n ad aG=>?_⟩
      · rcases GY _ (aP7 _ bq) with k | k
        · cases k
        · exact k
      · rcases aqj with k | k
        · have:=List.any_eq_false.1 k _ bq
          exact (this rfl).elim
        grind
    · refine .inr ?_
      rcases A4 (gL cq) c.a7.bC (eU (gL cq) c.a7.bX bk).2 p.1 with⟨k,_⟩ | ⟨q',aM,aS,R,z,b4⟩
      · grind
      · rw[b4]
        obtain⟨cO,cJ⟩:=q'
        cases cJ with
        | bQ e=>grind
        | _=>rfl
  have KB:((s.cC b9).aa cx).body.l3=true->∀ l aI ab n ad,fi (eU (gL cq) c.a7.bX bk).1 ca≠.aR l aI ab n ad:=λh l aI ab n ad aG=>by
    rcases (by simpa only [aPO,aPH]using aao:_\/_) with k | k
    · grind
    grind [yH]
  obtain⟨qi,fH⟩:=aqg   (X:=if c.a7.bX.any (λp=>p.1 == ca) then fi (eU (gL cq) c.a7.bX bk).1 ca else if c.cA.bX.any (λp=>p.1 == ca) then .undef else (s.cC b9).az ca)
    (H':=(AQ (s.cC b9) c f cq bk).aa)
    (kapn:=λb=>match cq.find? (λp=>p.2.1 == b) with
      | some p=>py p.1
      | none=>kap b) Qo ⟨G1.e7,G1.low,G1.own,G1.Lm,G1.bQ⟩ (λr h=>h.imp (λ⟨b,U,e⟩=>⟨f b,aQa (aw.cd b U).2.2,aw.xg U,e⟩) (aap r)) iZ fq GU GV KB
    (λp aj=>by simp  [AQ,Ll   pk aj]) (λb U=>by
      grind [AQ])
    (by
      split
      · simp
      · split
        · simp
        · rename_i L
          exact .inr (.inr ⟨rfl,yH c.cA.bX du A ca (Bool.eq_false_iff.2 L)⟩))
  exact⟨_,qi,fH⟩
variable {cG:iD}
theorem RN(bh:∀ i,o.dst=some i->i<C.bV)(qa:∀ c,o.op≠.defer c){cV:List aL}{cy:Prop}{n:Nat}(h:AR s o c cV cy n=some cG)
  (ae:∀ A a w kap F,bw C s a w kap F->cy->(c.sh A).fm->∃ k,cW C.P C.aU k c/\∃ us:List Value,us.length=n/\cV.length=n/\(∀ i,i<n->bJ C.P s.aa kap F w (cV.getD i .undef) (us.getD i undef))/\(execOp a.eval o).run C.P w=.ok (.enter k us.toArray) w)
  (aqm:vn (be C.aU s.az) o->cy):q0 C o s cG:=by
 unfold AR at h;split at h
 ·rename_i A b9 qh;split at h
  ·rename_i e3;cases h;refine⟨λa w Q K D ba yK=>?_,λgs px=>(by grind),aqm⟩;obtain⟨kap,F,D⟩:=D;have hlen:n=c.kU/\n<=fE:=by
    grind [GH]
   obtain⟨k,ax,us,nv,GX,A8,ds⟩:=ae A a w kap F D ba yK.1;have fA:=D.args     (by omega) (by omega) λi G=>A8 i (by omega);obtain⟨F',own,Y,j',_,bj,_,jk,_,G0,RO⟩:=aan D fA rfl qh rfl e3;have ur:=ax.gb G0 rfl rfl rfl rfl (by show us.length=_;omega) rfl yK.1;refine yu qa ds ur λe w' ⟨v,bk,aH,py,fV,he,gN,uu,iZ⟩=>⟨v,he,yK.2 bk gN _ _ ?_⟩
   obtain⟨kapn,qi,fH⟩:=RO C.ep w bj jk bk aH w' py fV iZ;exact⟨_,fV,bw.set qi bh (aqc uu λj=>by simp_all)⟩
  grind
 grind
theorem RP(D:bw C s a w kap F){args:List Operand}(ba:kg (args.map (be C.aU s.az))){i:Nat}(dH:i<args.length) :
  bJ C.P s.aa kap F w ((vt C.aU s args).getD i .undef) ((args.map a.eval).getD i undef):=by
 have E:=tU ba i (by grind);have bt:(vt C.aU s args).getD i .undef=(use (be C.aU s.az args[i])).2:=by grind [vt]
 grind [qN,lD]
variable {dq:Array TypeId}
theorem aqn(bh:∀ i,o.dst=some i->i<C.bV){k:Nat}{args:Array Operand}(ar:o.op=.call { callee:=.value (.func k),args:=args,argTypes:=dq })(ax:cW C.P C.aU k c)
  (h:GI C.aU s o args.toList c=some cG):q0 C o s cG:=by
 obtain⟨args⟩:=args;refine RN bh (by grind) h (λ_ a w kap F D ba _=>⟨k,ax,args.map a.eval,by simp,by simp[vt],λi G=>RP D ba (by omega),?_⟩) λU=>A2 U λx ao=>by grind [Op.operands,Call.operands]
 simp  [execOp,ar,resolve,Act.eval,Deferred.ofValue,invoke];have:=ax.enter (args.map a.eval).toArray w;grind
theorem aqo{Psi:Nat->Option gq}(dD:∀ k c,Psi k=some (.eu c)->cW C.P C.aU k c)(bh:∀ i,o.dst=some i->i<C.bV){t:Nat}{args:Array Operand}(ar:o.op=.call { callee:=.value (.tmp t),args:=args,argTypes:=dq })
  (h:KV C.aU Psi s o t args.toList=some cG):q0 C o s cG:=by
 obtain⟨args⟩:=args;unfold KV at h;split at h
 ·rename_i cy k n dQ hu;have hu:use (be C.aU s.az (.tmp t))=(cy,.ji k n dQ):=hu;split at h
  ·rename_i c hc;refine RN bh (by grind) h (λ_ a w kap F D ba _=>?_) λU=>⟨?_,A2 U λx ao=>by grind [Op.operands,Call.operands]⟩
   ·have ax:=db D (.tmp t) hu ba.1;obtain⟨aH,rA,jR,aqp⟩:=ax;refine⟨k,dD k c hc,args.map a.eval++aH,by grind,by simp[vt],λi G=>?_,?_⟩
    ·by_cases dH:i<args.length
     ·have:=RP D ba.2 dH;grind [vt]
     ·grind [vt]
    ·have ae:=rA;simp  [execOp,ar,resolve,ae,Deferred.ofValue,invoke];have:=(dD k c hc).enter ((args.map a.eval++aH).toArray) w;grind
   ·have:=U (.tmp t) (by grind [Op.operands,Call.operands]);grind
  grind
 grind
theorem aqq(aT:ed C.P T)(bh:∀ i,o.dst=some i->i<C.bV){src dst:TypeId}{x:Operand}(ar:o.op=.convert src dst x)(h:KW C.aU T s o src dst x=some cG):q0 C o s cG:=by
 unfold KW at h;split at h
 ·cases h
 ·rename_i h_;split at h
  ·rename_i ph;obtain⟨aqr,aqs⟩:=ph;split at h
   ·rename_i cy b hu;split at h
    ·rename_i m hm;cases h;refine⟨λa w Q K D ba yK=>?_,λgs px=>(by cases px),λU=>U.use (x:=x) (by rw[ar];simp[Op.operands]) hu⟩;obtain⟨kap,F,D⟩:=D;rw[h6]at yK;obtain⟨ah,yK⟩:=yK;obtain⟨ao,Ao⟩:=k3.1 (db D x hu ba);obtain⟨j,aJ,iB,_⟩:=(aT.cB aqr (by simp)).Kx.sl;have qa:∀ c,o.op≠.defer c:=by grind
     have ds:=Lib.run_convert_string_bytes   w src dst j ⟨b.toArray⟩ (aT.cB aqs (by simp)).str aJ iB.int;have cI:(ByteArray.mk b.toArray).size=b.length:=by rfl
     have Gt:=Lib.bytesWorld_size w j ⟨b.toArray⟩;have n9:=Lib.bytesWorld_at_old w j ⟨b.toArray⟩;have l_:=Lib.bytesWorld_at_new w j ⟨b.toArray⟩;have qW:dM w (Lib.bytesWorld w j ⟨b.toArray⟩):=by
      unfold Lib.bytesWorld World.freeze;split<;>exact⟨rfl,rfl,rfl⟩
     have vm:(s.aa cx).body=.bQ (.int .u8) m\/((s.aa cx).body=.ey/\m=[]):=by
      grind [ZP,Ky]
     have aLM:∀ id,id∈m.map (·.1)->id<w.heap.size:=λid hid=>by
      rcases vm with k | ⟨_,rfl⟩
      ·obtain⟨⟨e8,e_⟩,aj,rfl⟩:=List.mem_map.1 hid;exact ((D.bQ _ m k).2 e8 e_ aj).2.1
      grind
     have kA:(Lib.bytesCells w j ⟨b.toArray⟩).size=b.length+(grownCap w b.length 0 j - b.length):=by
      grind [Lib.bytesCells]
     have aar:∀ i (h:i<b.length),(Lib.bytesCells w j ⟨b.toArray⟩)[i]?=some (.int .u8 (b[i].toNat)):=λi h=>by
      grind [Lib.bytesCells]
     generalize Lib.bytesCells w j ⟨b.toArray⟩=cs at l_ kA aar;have gn:=by
      refine D.move   (fL.refl _ _) (λ_ h=>h) (λ_ h=>.inl h) (by omega) (λr h _=>n9 r h) qW (λhe b=>c7.k6 (D.bC b) (fL.refl _ _) (λ_ h=>h) he rfl rfl λar=>n9 _ (D.own b ar).1)
       (λb U=>⟨by have:=(D.own b U).1;omega,(D.own b U).2.1,.inl ⟨b,U,rfl⟩⟩) D.inj (λr h=>by have:=D.dr r h;omega) (λ_ _ h=>⟨rfl,h⟩)
     have c1:=gn.aoS vm   (xs:=c_ b) (λl aI ab n ad e=>h_ l aI ab n ad e) (by omega) (λh=>by have:=D.dr _ h;omega) (λh=>by have:=D.ir _ h;have:=D.size;omega)
      (λb U e=>by have:=(D.own b U).1;omega) (λh=>by grind) ⟨cs,j,_,_,l_,by grind [c_,V.size],.inr (by grind [c_,V.size]),λi G=>by
       have dR:i<b.length:=by grind [c_]
       refine⟨[.int .u8 (b[i].toNat)],λq bq=>?_,?_⟩
       ·grind [V.size]
       ·have e:(c_ b)[i]=(b[i].toNat):=by simp[c_]
        rw[e];refine⟨rfl,?_⟩;have:=b[i].toNat_lt;have bL:IntKind.u8.min=0:=by decide
        have aB:IntKind.u8.max=255:=by decide
        exact⟨by omega,by omega⟩⟩
     refine h8 qa ?_ (yK.2 w.heap.size (λh=>by grind) _ _ ⟨kap,F,c1.set bh ((eb rfl).2 ⟨rfl,.inr ⟨0,grownCap w b.length 0 j,rfl,grownCap_ge w _ 0 j,?_,λ_=>by simp⟩⟩)⟩)
     ·simp_all[execOp]
     grind [grownCap_le_maxLen,maxLen]
    grind
   grind
  grind
theorem cW.u'{P:Program}{aP:dV}(h:cW P aP k c){sh:c.cA.al->M c.a7.al}(ay:∀ A,a6 (c.sh A) (sh A)):cW P aP k { c with sh:=sh } where
 enter:=h.enter
 ik:=λC a w kap F A aB bt cT bW ek l1 D ub=>by
  obtain⟨aM,aS⟩:=ay A ub;exact (h.ik C a w kap F A aB bt cT bW ek l1 D aM).mono λe w' ⟨v,bk,aH,bR,F',E,L,ak⟩=>⟨v,bk,aH,bR,F',E,aS bk L,ak⟩
theorem aqt{Psi:Nat->Option gq}(bh:∀ i,o.dst=some i->i<C.bV){t:Nat}{args:Array Operand}(ar:o.op=.call { callee:=.value (.tmp t),args:=args,argTypes:=dq })
  (dD:∀ c sh ids,Psi ZQ=some (.KR c sh ids)->∀ k∈ids,cW C.P C.aU k { c with sh:=sh k }) {cG:iD} (h:KX C.aU Psi s o t args.toList=some cG):q0 C o s cG:=by
 unfold KX at h;split at h
 ·rename_i n aA;split at h
  ·rename_i c sh ids hc;obtain⟨args⟩:=args;refine RN bh (by grind) h (λA a w kap F D ba ay=>?_) λU=>A2 U λx ao=>by grind [Op.operands,Call.operands]
   obtain⟨⟨k,an,rfl⟩,_⟩:=ay;have ax:=(dD c sh ids hc k an).u' (sh:=(ZR c sh ids (some k)).sh) λA h=>⟨h.2,λy a_=>a_⟩
   refine⟨k,ax,args.map a.eval,by simp,by simp[vt],λi G=>RP D ba (by omega),?_⟩;have an:a.eval (.tmp t)=.func (.func k) #[] #[]:=?_
   ·simp  [execOp,ar,resolve,an,Deferred.ofValue,invoke];have:=ax.enter (args.map a.eval).toArray w;grind
   have ae:=D.bX t;rw[aA]at ae;obtain⟨_,ae⟩:=(eb rfl).1 ae;exact (aPM ae).1
  grind
 grind
end
end Go.Fer
namespace Go.Fer
open Go.RowKit
section
variable {C:cF} {o:Oper} {s:aC}
theorem bw.round{s:aC}{a:Act}{w w':World}{kap:Nat->bI}{F' fV Y Lo:Nat->Prop}{l:Nat}{aI:V}{ab:List aI.al->Prop}{I}{eC:List aI.al}{RQ:Bool}(D:bw C s a w kap F')(q2:C.cG=⟨l,aI,ab,I⟩)(b5:C.cG.j1 C.P)
    (a_:∀ r,Y r->r<w.heap.size/\¬F' r/\¬C.K0 r) (RR:∀ b,(s.aa b).body.cd (kap b)=true->¬Y (kap b).aa)
    (dx:∀ r,F' r->fV r) (ec:∀ r,fV r->F' r\/Y r\/w.heap.size<=r) (jF:∀ r,fV r->r<w'.heap.size) (g4:∀ r,r<w.heap.size->¬Y r->w'.heap[r]?=w.heap[r]?)
    (qT:∀ r,Lo r->(Y r\/w.heap.size<=r)/\r<w'.heap.size/\¬fV r) (xj:w.heap.size<=w'.heap.size) (g7:dM w w') (g8:I eC RQ fV Lo w') (qj:∀ r,¬k7 s.aa r) :
    bw C ⟨λi=>if i=ca then .aR l aI ab eC RQ else s.az i,s.aa⟩ a w' kap fV:=by
  have rO:di F' w w':=⟨xj,λr h=>g4 r (D.dr r h) λRS=>(a_ r RS).2.1 h⟩
  have l_:∀ r,w.heap.size<=r->¬C.K0 r:=λr h an=>by have:=D.ir r an;have:=D.size;omega
  refine { dX := D.dX, dj := D.dj, bX := λi => ?_, bC := λb => c7.k6 (D.bC b) (fL.refl _ _) dx rO rfl rfl λar => g4 _ (D.own b ar).1 (RR b ar), own := λb U => ?_, inj := D.inj, dr := jF, hQ := λr h => ?_,iq:=λr h=>dx r (D.iq r h),ir:=D.ir,e2:=λr h=>?_,size:=aPG D.size xj,eN:=D.eN.trans g7,hE:=D.hE,k8:=D.k8,iY:=D.iY,k9:=D.k9,jB:=D.jB,e7:=λet mX gf kf lk e=>?_,bQ:=λe m hm=>⟨(D.bQ e m hm).1,λid xs ao=>(qj id ⟨e,m,xs,hm,ao⟩).elim⟩,j2:=D.j2,hW:=D.hW.mono dx rO }
  · show bJ C.P s.aa kap fV w' (if i=ca then .aR l aI ab eC RQ else s.az i) _
    split
    · trivial
    · exact bJ.later (fL.refl _ _) dx rO (D.bX i)
  · have h:=D.own b U
    grind
  · rcases ec r h with h | h | h
    · exact D.hQ r h
    · exact .inr (a_ r h).2.2
    · exact .inr (l_ r h)
  · exact (g4 r (aPB (D.ir r h) D.size) λk=>(a_ r k).2.2 h).trans (D.e2 r h)
  · simp only[if_true]at e
    cases e
    refine⟨⟨I,q2⟩,b5,Lo,λr h=>⟨(qT r h).2.1,(qT r h).2.2,?_⟩,λb U h=>?_,?_⟩
    · grind
    · rcases (qT _ h).1 with h | h
      · grind
      · exact absurd (D.own b U).1 (Nat.not_lt.2 h)
    · rw[q2];exact nW.CD.2 g8
theorem aqu(bh:∀ i,o.dst=some i->i<C.bV){t:Nat}{args:Array Operand}{dq:Array TypeId}(ar:o.op=.call { callee:=.value (.tmp t),args:=args,argTypes:=dq }){cG:iD}
  (h:KY C.aU s o t args.toList=some cG):q0 C o s cG:=by
 obtain⟨args⟩:=args;unfold KY at h;split at h
 ·rename_i et l aI ab n ad G3 ps;split at h
  ·rename_i x b9 ao;cases h;refine⟨λa w Q K D ba hm=>?_,λgs px=>(by grind),λU=>A2 U λx ao=>by rw[ar];simp[Op.operands,Call.operands];simp_all⟩;obtain⟨kap,F,D⟩:=D;rw[h6]at hm;obtain⟨⟨rfl,rfl,Lp⟩,hm⟩:=hm;obtain⟨F',f1,bj,f2⟩:=bw.mR (rF _ ao) D;have fA:gv C.P aI F' w (args.map a.eval) x:=by
    refine w2 D.bC f1 aI ao f2 (by simp) λi G dR=>?_;simp only[aQp];have dH:i<args.length:=by grind
    have E:=tU ba i (by grind);have aB:(args.map (be C.aU s.az)).getD i .undef=be C.aU s.az args[i]:=by grind
    rw[show (List.map (be C.aU s.az) (⟨args⟩:Array Operand).toList)=args.map (be C.aU s.az) from rfl,aB]at E;exact qN (lD D args[i]) E
   have ae:a.eval (.tmp t)=.func (.yield et) #[] #[]:=by
    have:=lD D (.tmp t);have e:be C.aU s.az (.tmp t)=.il et:=G3;rw[e]at this;exact this
   obtain⟨⟨I,q2⟩,b5,Y,a_,RR,fw⟩:=bj.e7 et aI ab n false ps;have aqv:nW.j1 C.P ⟨et,aI,ab,I⟩:=q2 ▸ b5;rw[q2]at fw;have fw:=nW.CD.1 fw;obtain⟨fn,tmps,assign,body,E,L⟩:=aqv.yield fw bj.dr (λr h=>⟨(a_ r h).1,(a_ r h).2.1⟩) Lp fA;have ds:(execOp a.eval o).run C.P w=.ok (.round et fn tmps assign body) w:=by
    simp only[execOp,ar,Sem.run_bind,resolve,ae,Deferred.ofValue,Sem.run_pure,Result.andThen_ok,invoke];grind
   refine⟨λ_ _=>trivial,?_⟩;rw[CQ (by grind),ds,Oper.uponIn_round];refine⟨λay=>(by cases ay),?_⟩;have ak:RoundIn (eZ C.r) 0 C.P et fn tmps assign body w _:=L;refine ak.mono λe w' ⟨b,fV,Lo,he,dx,ec,jF,g4,qT,xj,g7,g8⟩=>?_;subst he;refine hm.2 b trivial _ _ ⟨kap,fV,bw.set ?_ bh (gC.2 rfl)⟩;exact bj.round q2 b5 a_ RR dx ec jF g4 qT xj g7 g8 λr aj=>(bj.bQ.nX aj).1 _ _ _ _ _ ps
  grind
 grind
end
end Go.Fer
namespace Go.Fer
open Go.RowKit
section
variable {C:cF} {T:Nat->V} {bs:Nat->Option aN} {s:aC} {res:eA}
theorem aas{ms:Array MapEntry}{j:Nat}(aJ:j<ms.size)(hu:∀ i (h:i<ms.size),ms[i].born=ms[j].born->i=j):ms.findIdx? (λe=>(e.born:Int) == (ms[j].born:Int))=some j:=by
 rw[Array.findIdx?_eq_some_iff_getElem];grind
theorem aqw(ms:Array MapEntry)(e:MapEntry)(f:MapEntry->MapEntry):(ms.push e).modify ms.size f=ms.push (f e):=by
 grind
theorem aqx(ms:Array MapEntry)(j:Nat)(f g:MapEntry->MapEntry):(ms.modify j f).modify j g=ms.modify j λe=>g (f e):=by
 grind
theorem Dq{a:Act}{d:Nat}{v:Value}{x:Operand}(h:x≠.tmp d):(a.put (some d) v).eval x=a.eval x:=Act.eval_put λAd e=>by grind
theorem G4{a:Act}{d:Nat}{v:Value}(h:d<a.tmps.size):(a.put (some d) v).eval (.tmp d)=v:=by
 simp[Act.put,Act.eval,h]
theorem aqy(aT:ed C.P T){jQ gV nw lI:Oper}{d1 d2:Nat}{ty:TypeId}{m x y:Operand}(E:jQ.op=.mapEntry ty m x)(t1:jQ.dst=some d1)(L:gV.op=.extract (.tmp d1) 1)(bU:gV.dst=some d2)
  (ak:nw.op=.entryStore ty m (.tmp d2) y) (cX:nw.dst=none) (iM:lI.op=.mapUpdate ty m x y) (aat:lI.dst=none) (mY:m≠.tmp d1) (cS:m≠.tmp d2) (A9:y≠.tmp d1) (xk:y≠.tmp d2) (w0:d1<C.bV) (jj:d2<C.bV)
  (h:(iv C.aU T bs (be C.aU s.az) lI).run s.aa=some res) {a:Act} {w:World} {kap:Nat->bI} {F:Nat->Prop} {Q:Exit->Act->World->Prop} {K:Act->World->Prop} (D:bw C s a w kap F) (ba:res.cy) (hc:res.c)
  (kG:∀ a' w',dc C (((s.jE none res).set (some d1) .undef).set (some d2) .undef) a' w'->K a' w') :
  jQ.wpIn (eZ C.r) 0 C.P a w (λcw cf=>gV.wpIn (eZ C.r) 0 C.P cw cf (λb2 dL=>nw.wpIn (eZ C.r) 0 C.P b2 dL K Q) Q) Q:=by
 have h:(cP C.aU T bs (be C.aU s.az) lI).run s.aa=some res:=by simpa only [iv,e1,iM]using h
 have lF:=Ql aT aat (.inl iM) h a w kap F Q D ba hc;have aB:∀ c,jQ.op≠.defer c:=by grind
 have bt:∀ c,gV.op≠.defer c:=by grind
 have cT:∀ c,nw.op≠.defer c:=by grind
 have aqz:∀ c,lI.op≠.defer c:=by grind
 simp  [cP,iM,vc]at h;split at h
 ·rename_i k v aG;obtain⟨nu,C0,G,pr,kj⟩:=(aT.cB aG (by simp)).mp;obtain⟨inf,oT,i1,i2,i3,i4,i5,i6⟩:=nq kj.np;split at h
  ·rename_i A_;split at h
   ·rename_i b g w4;simp only[aE.fZ,amj,aE.run_bind,aE.gU,aE.dy]at h;obtain⟨⟨eP,sB⟩,ao,⟨sH,ld⟩,a_,h⟩:=h;split at h
    ·rename_i aD;obtain⟨aD,CY⟩:=aD;split at h
     ·rename_i k' iu es U;simp  at h;obtain⟨Y_,rD,rfl⟩:=h;obtain⟨e,rfl⟩:=mN rD;cases e;obtain⟨F',f1,bj,f2⟩:=bw.mR ((pn ao).append (pn a_)) D;have hm:bJ C.P s.aa kap F w (use (be C.aU s.az m)).2 (a.eval m):=db D m rfl ba.1;rw[w4]at hm;have mT:=hm.2 aD.symm (by rw[U];rfl);have w5:=oK D.bC f1 ao f2.left (db D x rfl ba.2.1);have sI:(s.cC (sB++ld)).aa b=s.aa b:=by simp  [aC.cC];grind
      have aX:=bj.bC b;unfold c7 at aX;rw[sI,U]at aX;obtain⟨ms,clk,hw,qU⟩:=aX;have gE:=by simpa [yn]using A_
      have e3:=(Gj (em:=false) k 10000 gE.1 (by omega)).1 pr w5;have my:=qU.es;obtain⟨f,cO,cJ⟩:=Az       A_ pr w5 my.1 (λj e p E L=>(my.2 j e p E L).1);have fz:(getObj (kap b).aa).run C.P w=.ok (.map ms clk) w:=by simp[getObj,Sem.run,hw]
      obtain⟨ir,Qm,Qn,Y'⟩:=qU;have uv:d1<a.tmps.size:=by have:=D.dX;omega
      have dk:=(Array.getElem?_eq_some_iff.1 hw).1;have chain:∀ (cf dL:World) (u:Value) (n:Int),(execOp a.eval jQ).run C.P w=.ok (.value (.tuple #[u,goInt n])) cf->(Instr.entryStore ty (.map (some (kap b).aa)) (goInt n) (a.eval y)).run C.P cf=.ok () dL->
        (execOp a.eval lI).run C.P w=.ok .skip dL->
        jQ.wpIn (eZ C.r) 0 C.P a w (λcw cf=>gV.wpIn (eZ C.r) 0 C.P cw cf (λb2 dL=>nw.wpIn (eZ C.r) 0 C.P b2 dL K Q) Q) Q:=by
       intro cf dL u n ck c8 aqA;have n_:=lF.2;rw[CQ aqz,aqA,Oper.uponIn_skip,aat]at n_;refine h8 aB ck ?_;rw[t1];have aqB:(a.put (some d1) (.tuple #[u,goInt n])).eval (.tmp d1)=.tuple #[u,goInt n]:=G4 uv;refine h8 (v:=goInt n) (w':=cf) bt (by simp[execOp,L,aqB,Instr.extract]) ?_;rw[bU];have aqC:d2<(a.put (some d1) (.tuple #[u,goInt n])).tmps.size:=by have:=D.dX;simp[Act.put];omega
       have aqD:((a.put (some d1) (.tuple #[u,goInt n])).put (some d2) (goInt n)).eval (.tmp d2)=goInt n:=G4 aqC;have RT:((a.put (some d1) (.tuple #[u,goInt n])).put (some d2) (goInt n)).eval m=.map (some (kap b).aa):=by rw[Dq cS,Dq mY,mT]
       have aqE:((a.put (some d1) (.tuple #[u,goInt n])).put (some d2) (goInt n)).eval y=a.eval y:=by rw[Dq xk,Dq A9]
       refine F0 cT (w':=dL) (by simp  [execOp,ak,aqD,RT,aqE,c8,Sem.run_pure]) ?_;rw[cX];refine kG _ _ ?_;obtain⟨bR,F',n_⟩:=n_;exact⟨bR,F',bw.set (bw.set   (av:=.undef) n_ (λi e=>by grind) trivial) (λi e=>by grind) trivial⟩
      rcases cJ with⟨rfl,eM⟩ | ⟨j,e,p,dx,ec,jF,g4,rfl⟩
      ·refine chain { w with heap:=w.heap.setIfInBounds (kap b).aa (.map (ms.push { key:=a.eval x,val:=oT,born:=clk }) (clk+1)) } { w with heap:=w.heap.setIfInBounds (kap b).aa (.map (ms.push { key:=a.eval x,val:=a.eval y,born:=clk }) (clk+1)) } oT clk ?_ ?_ ?_
       ·simp  [execOp,E,mT,Instr.mapEntry,en G,fz,e3,cO,sD i1 i4,vl hw]
       ·have RU:(getObj (kap b).aa).run C.P { w with heap:=w.heap.setIfInBounds (kap b).aa (.map (ms.push { key:=a.eval x,val:=oT,born:=clk }) (clk+1)) }=.ok (.map (ms.push { key:=a.eval x,val:=oT,born:=clk }) (clk+1)) { w with heap:=w.heap.setIfInBounds (kap b).aa (.map (ms.push { key:=a.eval x,val:=oT,born:=clk }) (clk+1)) }:=by simp[getObj,Sem.run,dk]
        have RV:(ms.push { key:=a.eval x,val:=oT,born:=clk }).findIdx? (λe=>e.born == (clk:Int))=some ms.size:=by
         have:=aas (ms:=ms.push { key:=a.eval x,val:=oT,born:=clk }) (j:=ms.size) (by simp) λi G he=>by
          grind
         grind
        simp  [Instr.entryStore,RU,goInt,asInt,asIntOf,RV];rw[vl (es:=ms.push { key:=a.eval x,val:=oT,born:=clk }) (clk:=clk+1) (by grind),aqw];simp
       ·simp  [execOp,iM,mT,Instr.mapUpdate,en G,fz,e3,cO,vl hw]
      ·have aJ:=(List.getElem?_eq_some_iff.1 ec).1;have Rt:j<ms.size:=by omega
       obtain⟨oa,cf,ck,c8,fB⟩:=Qk C.P w e.key (a.eval x);have n':cf.heap[(kap b).aa]?=some (.map ms clk):=by rcases fB with rfl | rfl<;>exact hw
       have aau:=(Array.getElem?_eq_some_iff.1 n').1;have n9:((ms[j]?).map (·.key)).getD (a.eval x)=e.key:=by
        grind
       have RW:((ms[j]?).map (λx=>(x.born:Int))).getD 0=(ms[j].born):=by grind
       refine chain { cf with heap:=cf.heap.setIfInBounds (kap b).aa (.map (ms.modify j λe=>{ e with key:=oa }) clk) } { cf with heap:=cf.heap.setIfInBounds (kap b).aa (.map (ms.modify j λe=>{ e with key:=oa,val:=a.eval y }) clk) } e.val ms[j].born ?_ ?_ ?_
       ·simp  [execOp,E,mT,Instr.mapEntry,en G,fz,e3,cO];rw[n9,ck];simp  [vl n',RW]
       ·have RU:(getObj (kap b).aa).run C.P { cf with heap:=cf.heap.setIfInBounds (kap b).aa (.map (ms.modify j λe=>{ e with key:=oa }) clk) }=.ok (.map (ms.modify j λe=>{ e with key:=oa }) clk) { cf with heap:=cf.heap.setIfInBounds (kap b).aa (.map (ms.modify j λe=>{ e with key:=oa }) clk) }:=by simp[getObj,Sem.run,aau]
        have RV:(ms.modify j λe=>{ e with key:=oa }).findIdx? (λe=>e.born == (ms[j].born:Int))=some j:=by
         have:=aas (ms:=ms.modify j λe=>{ e with key:=oa }) (j:=j) (by grind) λi G he=>by
          grind
         grind
        simp  [Instr.entryStore,RU,goInt,asInt,asIntOf,RV];rw[vl (es:=ms.modify j λe=>{ e with key:=oa }) (clk:=clk) (by grind),aqx];simp
       ·simp  [execOp,iM,mT,Instr.mapUpdate,en G,fz,e3,cO];rw[n9,ck];simp  [vl n']
     grind
    grind
   ·cases h
  ·cases h
 ·cases h
end
end Go.Fer
namespace Go.Fer
open Go.RowKit
structure G5(P:Program)(k:FuncId)(c:De):Prop where
 enter:∀ args w,(callFunc k args).run P w=.ok (.enter k args) w
 ik:∀ (l:Nat) (I:List c.aI.al->Bool->(Nat->Prop)->(Nat->Prop)->World->Prop) (F Y:Nat->Prop) (w:World) (args:List Value) (x:c.ts.al),gv P c.ts F w args x->c.pre x->nW.j1 P ⟨l,c.aI,λT=>T=c.seq x,I⟩->
  (∀ r,F r->r<w.heap.size)->pd P F w->(∀ r,Y r->r<w.heap.size/\¬F r)->I [] false F Y w->Calls P k (args++[Value.func (.yield l) #[] #[]]).toArray w λe w'=>
   ∃ v pre ad F' jh,e=.returned v/\(ad=false->pre=c.seq x)/\I pre ad F' jh w'/\(∀ r,F r->F' r)/\(∀ r,F' r->F r\/Y r\/w.heap.size<=r)/\(∀ r,F' r->r<w'.heap.size)/\
    (∀ r,r<w.heap.size->¬Y r->w'.heap[r]?=w.heap[r]?)/\(∀ r,jh r->(Y r\/w.heap.size<=r)/\r<w'.heap.size/\¬F' r)/\w.heap.size<=w'.heap.size/\dM w w'
def gq.j1(P:Program)(aP:dV)(k:FuncId):gq->Prop
 | .dI c=>hD P k c.ts c.aR c.sh/\(c.KP=true->∀ x,(c.sh x).GC)
 | .eu c=>cW P aP k c
 | .cE c=>G5 P k c
 | .ZK c=>hD P k c.ts c.aR c.sh/\FG P k c.ts c.aR c.sh
 | .KR c sh ids=>∀ k∈ids,cW P aP k { c with sh:=sh k }
 | .mB c=>p7 c.aR=true/\Gh P k c
def pz(P:Program)(aP:dV)(Psi:Nat->Option gq):Prop:=∀ k c,Psi k=some c->c.j1 P aP k
section
variable {C:cF} {T:Nat->V} {bs:Nat->Option aN} {Psi:Nat->Option gq} {s:aC} {o:Oper} {Q:Exit->Act->World->Prop} {ops:Array Oper}
theorem aqF(dn:lE C.P bs)(dD:pz C.P C.aU Psi){k:Nat}{c:jH}(h:Q3 bs Psi k=some c):hD C.P k c.ts c.aR c.sh:=by
 unfold Q3 at h;split at h
 ·rename_i gl kB;cases h;have:=dD k _ kB;exact this.1
 ·grind
 ·obtain⟨f,ax,h⟩:=Option.bind_eq_some_iff.1 h;split at h
  ·grind
  ·cases h;exact (dn k f ax).1 (by grind)
variable {P:Program}{w:World}{ty:TypeId}{j:TypeId}
theorem aqG(aJ:P.underlying ty=some (.slice j))(q:Option Addr)(n cap d:Nat):(Op.equalIn (d+1) ty (.slice q n cap) (.slice none 0 0)).run P w=.ok q.isNone w:=by
 cases q<;>simp[Op.equalIn,en aJ]
theorem aqH(op:BinOp)(t:TypeId)(x y:Operand)(q q':Option Addr)(n kf cap ys:Nat):(eqGuard op t x y (.slice q n cap) (.slice q' kf ys)).run P w=.ok () w:=by
 simp_all[eqGuard]
variable {x:Operand}
theorem aav{y:Operand}(aJ:P.underlying ty=some (.slice j))(q:Option Addr)(n cap:Nat) :
  (do eqGuard .eql ty x y (.slice q n cap) (.slice none 0 0);binOp .eql ty (.slice q n cap) (.slice none 0 0):Sem Value).run P w=.ok (.bool q.isNone) w/\(do eqGuard .neq ty x y (.slice q n cap) (.slice none 0 0);binOp .neq ty (.slice q n cap) (.slice none 0 0):Sem Value).run P w=.ok (.bool (!q.isNone)) w:=by
 simp_all[aqG,aqH,binOp,Op.equal,Op.maxDepth]
variable {cG:iD}
theorem aqI(aT:ed C.P T)(bh:∀ i,o.dst=some i->i<C.bV){op:BinOp}{mQ:TypeId}{y:Operand}(ar:o.op=.binOp op ty x y mQ)(h:GK C.aU T s o op ty x y=some cG):q0 C o s cG:=by
 have qa:∀ c,o.op≠.defer c:=by grind
 unfold GK at h;split at h
 ·rename_i e aG aqJ;have dC:=aT.cB aG (by simp);obtain⟨j,aJ,_⟩:=dC.sl;split at h
  ·rename_i xs l kh;have key:∀ (a:Act) (w:World) (kap:Nat->bI) (F:Nat->Prop),bw C s a w kap F->(use (be C.aU s.az x)).1->∃ b:Bool,(b=true->xs=[])/\(op=.eql->(execOp a.eval o).run C.P w=.ok (.value (.bool b)) w)/\(op=.neq->(execOp a.eval o).run C.P w=.ok (.value (.bool (!b))) w):=by
    intro a w kap F D ba;have ao:=F4 D kh (db D x rfl ba);obtain⟨_,q,cap,aB,m1,m2,m3,_⟩:=(eb rfl).1 ao;have a_:a.eval y=.slice none 0 0:=by
     have:=lD D y;rw[aqJ]at this;exact this
    refine⟨q.isNone,λbq=>?_,λlF=>?_,λlF=>?_⟩
    ·simp_all
    ·have D:=(aav (w:=w) (x:=x) (y:=y) aJ q xs.length cap).1;simp only[execOp,ar,Sem.run_bind]at D ⊢;simp_all
    ·have D:=(aav (w:=w) (x:=x) (y:=y) aJ q xs.length cap).2;simp only[execOp,ar,Sem.run_bind]at D ⊢;simp_all
   split at h
   ·cases h;refine⟨λa w Q K D ba hm=>?_,λgs px=>(by grind),λU=>U x (by grind [Op.operands])⟩;obtain⟨kap,F,D⟩:=D;obtain⟨b,cY,fe,_⟩:=key a w kap F D ba;exact h8 qa (fe rfl) (hm.2 b cY _ _ ⟨kap,F,bw.set D bh (gC.2 rfl)⟩)
   ·cases h;refine⟨λa w Q K D ba hm=>?_,λgs px=>(by grind),λU=>U x (by grind [Op.operands])⟩;obtain⟨kap,F,D⟩:=D;obtain⟨b,cY,_,fe⟩:=key a w kap F D ba;exact h8 qa (fe rfl) (hm.2 b cY _ _ ⟨kap,F,bw.set D bh (gC.2 rfl)⟩)
   grind
  grind
 grind
theorem RX(aT:ed C.P T)(dn:lE C.P bs)(dD:pz C.P C.aU Psi)(bh:∀ i,o.dst=some i->i<C.bV)(h:uh C.aU T bs Psi s o=some cG):q0 C o s cG:=by
 unfold uh at h;split at h
 ·rename_i c ar;obtain⟨callee,args,dq⟩:=c;split at h
  ·rename_i f ax;subst ax;split at h
   ·split at h
    ·rename_i gl kB;exact aqn bh ar (dD _ _ kB) h
    ·rename_i gl kB;have ak:=dD _ _ kB;exact ap1 bh ar ak.1 ak.2 h
    ·split at h
     ·rename_i dI RY;exact ap0 bh ar (aqF dn dD RY) h
     grind
   ·split at h
    ·grind [ap2]
    ·split at h
     ·rename_i r D;cases h;exact aqt bh ar (λc sh ids hc=>dD _ _ hc) D
     ·split at h
      ·rename_i r D;cases h;exact aqo (λk c hc=>dD k _ hc) bh ar D
      ·grind [aqu]
   grind
  grind
 ·grind [ap3]
 ·grind [ap7]
 ·grind [ap4]
 ·grind [aqI]
 ·grind [aqq]
 grind
theorem aaw(want b:Bool):((some b == some want:Bool))=KD want b:=by cases want<;>cases b<;>rfl
variable {j:Nat}{a:Act}{d:Nat}
theorem aax{vx:Oper}(E:ops[j]?=some vx)(L:vx.dst=some d){b:Bool}(h:a.tmps.getD d Go.undef=.bool b):yielded ops a.tmps j=some b:=by
 have:a.tmps[d]?=some (.bool b):=by
  rw[aPz]at h;cases he:a.tmps[d]? with
  | none=>rw[he]at h;cases h
  | some v=>grind
 grind [yielded]
theorem aqK{vx:Oper}(E:ops[j]?=some vx)(L:vx.dst=some d)(h:a.tmps.getD d Go.undef=Go.undef):yielded ops a.tmps j=none:=by
 unfold yielded;rw[E];simp  [L];rw[aPz]at h;cases he:a.tmps[d]? with
 | none=>rfl
 | some v=>rw[he]at h;cases h;rfl
theorem Lq{kap:Nat->bI}{F:Nat->Prop}(D:bw C s a w kap F){g:Option Bool}(h:mb s.az ops o.guard=some g) :
  Region.wanted o (yielded ops a.tmps)=g.getD true:=by
 unfold Region.wanted;cases aD:o.guard with
 | none=>rw[aD]at h;cases h;rfl
 | some p=>
  rw[aD]at h;simp  [mb]at h ⊢;split at h
  ·rename_i vx aJ;split at h
   ·rename_i d aw;have ay:=D.bX d;split at h
    ·rename_i b U;cases h;rw[U]at ay;rw[aax aJ aw (gC.1 ay),aaw];rfl
    ·rename_i g' b U;cases h;rw[U]at ay;obtain⟨E,L⟩:=ay;cases g' with
     | true=>
      rw[aax aJ aw (gC.1 (E rfl)),aaw];simp
     | false=>
      grind [aqK]
    grind
   grind
  grind
theorem aqL{cy c:Prop}{ho vv:aL}{jC AU:List (Nat×b7)}(aD:K5 o ho jC=some (AU,vv))(h:(iv C.aU T bs (be C.aU s.az) o).run s.aa=some ⟨cy,c,ho,jC⟩) :
    (∀ a w,dc C (s.jE o.dst ⟨cy,c,ho,jC⟩) a w->dc C ((s.iw AU).set o.dst vv) a w)/\(∀ a w kap F,bw C s a w kap F->∃ bR F',bw C (s.iw AU) a w bR F'):=by
  unfold K5 at aD;split at aD
  · cases aD
    exact⟨λa w h=>h,λa w kap F h=>⟨kap,F,h⟩⟩
  · rename_i p et
    split at aD
    · rename_i RZ first dQ ar
      cases aD
      refine⟨λa w h=>h,λa w kap F D=>?_⟩
      simp  [iv,e1,ar,cP]at h
      split at h
      · split at h
        · split at h
          · simp only[aE.fZ,amj,aE.run_bind,aE.dy]at h
            obtain⟨⟨y,l⟩,a_,he⟩:=h
            obtain⟨F',_,bj,_⟩:=bw.mR (rF _ a_) D
            grind [tV]
          · split at h
            · simp only[aE.fZ,amj,aE.run_bind,aE.dy]at h
              obtain⟨⟨y,l⟩,a_,he⟩:=h
              obtain⟨F',_,bj,_⟩:=bw.mR (rF _ a_) D
              grind [tV]
            grind [da,aE.dy]
        · split at h
          · grind [da,aE.dy]
          · cases h
      · cases h
    · rename_i ty n bu ar
      split at aD
      · rename_i bf g' e xs ch
        split at aD
        · rename_i aqM
          obtain⟨⟨rfl,rfl⟩,_⟩:=aqM
          cases aD
          obtain⟨b,⟨aqN,km⟩⟩:=p
          subst ch
          have l_:o.dst=some b/\aqN=(s.aa b).gen+1:=by
            simp  [iv,e1,ar,cP]at h;split at h
            · grind [aE.fZ,Option.bind_eq_some_iff,aE.run_bind,tR]
            · cases h
          obtain⟨bh,rfl⟩:=l_
          refine⟨λa w n_=>?_,λa w kap F D=>?_⟩
          · obtain⟨kap,F,D⟩:=n_
            rw[bh]at D ⊢
            simp  [aC.jE]at D
            have ao:(eh (.slice e) (.own b ((s.aa b).gen+1))).run ((s.cn b ⟨(s.aa b).gen+1,.bl e xs⟩).set (some b) (.own b ((s.aa b).gen+1))).aa=some (xs,[b]):=by
              simp_all[eh,l4,eK,aC.set,aC.cn,fF,V.fY]
            obtain⟨ue,f1,gn,f2⟩:=bw.mR (pn ao) D
            have ay:=D.bX b
            have ae:=oK (v:=a.tmps.getD b undef) D.bC f1 ao f2 (by grind [aC.set])
            have fH:∀ i,i≠b->((s.cn b ⟨(s.aa b).gen+1,.bl e xs⟩).set (some b) (.own b ((s.aa b).gen+1))).az i=s.az i:=λi G=>by simp[aC.set,aC.cn,G]
            have c1:bw C ⟨λi=>if i=b then .val (.slice e) xs else s.az i,(((s.cn b ⟨(s.aa b).gen+1,.bl e xs⟩).set (some b) (.own b ((s.aa b).gen+1))).cC [b]).aa⟩ a w kap ue:=
              { gn with
                dX:=gn.dX,dj:=gn.dj,bC:=gn.bC
                bX:=λi=>by
                  show bJ _ _ _ _ _ (if i=b then .val (.slice e) xs else s.az i) _;split
                  · rename_i G
                    subst G
                    exact ae
                  · rename_i G
                    rw[<-fH i G]
                    exact gn.bX i
                e7:=λl aI ab n ad aY=>by
                  have aY:(if ca=b then aL.val (.slice e) xs else s.az ca)=.aR l aI ab n ad:=aY;split at aY
                  · grind
                  · rename_i G
                    exact gn.e7 l aI ab n ad ((fH ca G).trans aY)
                bQ:=gn.bQ.bX rfl λl aI ab n ad aY=>by
                  have aY:(if ca=b then aL.val (.slice e) xs else s.az ca)=.aR l aI ab n ad:=aY;split at aY
                  · grind
                  · rename_i G
                    exact (fH ca G).trans aY }
            refine⟨kap,ue,c1.u' ⟨λi=>.inl ?_,λi=>?_⟩⟩
            · rfl
            grind [aC.set,aC.iw,aC.cn,aC.cC,fN]
          · have aA:=Rq D (b:=b) (e:=e)
            refine⟨_,F,aA.u' ⟨λi=>.inl rfl,λi=>?_⟩⟩
            grind [aC.iw,aC.cn]
        grind
      grind
    grind
theorem A'{bet:Type}{b:Bool}{p:Prop}{m:M bet}{O:bet->Prop}(U:b=true->p):c6 (yC b p m) O<->p/\c6 m O:=by
 cases b with
 | true=>exact⟨λh=>⟨U rfl,h⟩,λh=>h.2⟩
 | false=>exact h6
def sT(ops:Array Oper)(s:aC)(e':rJ):Prop:=∀ p∈e',∃ b a,s.az p.1=.ku b a/\mb s.az ops (some p.2)=some (some b)
theorem aqO:yD ops j d=true<->d∈KE ops (some (j,true)):=by
 have key:∀ (x:Option Oper),(match x with | some o=>(match o.dst with | some e=>e == d | none=>false) | none=>false)=true<->d∈(match x with | some o=>o.dst.toList | none=>[]):=by
  grind
 exact key _
theorem sT.i_{s':aC}{e':rJ}(h:sT ops s e')(ay:∀ i,o.dst≠some i->s'.az i=s.az i)
  (aw:∀ d k,o.dst=some d->o.guard=some k->∃ b a,s'.az d=.ku b a/\mb s.az ops (some k)=some (some b)):sT ops s' (AS ops e' o):=by
 unfold AS;cases bh:o.dst with
 | none=>
  intro p aj;obtain⟨b,a,E,L⟩:=h p aj;grind [QF]
 | some d=>
  have congr:∀ k,yD ops k.1 d=false->mb s'.az ops (some k)=mb s.az ops (some k):=λk an=>QF λt aG=>ay t (by
   have:=aqO.2 aG;grind)
  grind [sT]
section
variable {aP:dV} {e':rJ} {gk:Option (Nat×Bool)}
theorem G6(aT:sT ops s e')(aD:∀ k,gk=some k->mb s.az ops (some k)=some (some true))(h:AT (be aP s.az) e' gk x=true):(use (be aP s.az x)).1:=by
 unfold AT at h;rw[aPO]at h;rcases h with h | h
 ·grind [Kw]
 ·split at h
  ·rename_i t k;obtain⟨p,aj,u_⟩:=List.any_eq_true.1 h;simp  at u_;obtain⟨rfl,E,L⟩:=u_;have u_:=Prod.ext E L;obtain⟨b,a,aM,aS⟩:=aT p aj;rw[u_,aD k rfl]at aS;cases aS;have e:be aP s.az (.tmp p.1)=s.az p.1:=rfl;rw[e,aM];rfl
  grind
theorem aay(aT:sT ops s e')(aD:∀ k,gk=some k->mb s.az ops (some k)=some (some true))(h:Q6 (be aP s.az) e' gk o=true):vn (be aP s.az) o:=
 λx ao=>G6 aT aD (List.all_eq_true.1 h x ao)
theorem aaz(aT:sT ops s e'){c:Operand}{want:Bool}{vd:Prop}{lC:Bool}(hc:use (be aP s.az c)=(vd,.val .bool lC))(G7:vd)(h:K6 ops e' c x want=true)(hw:KD want lC=true):(use (be aP s.az x)).1:=by
 unfold K6 at h;split at h
 ·obtain⟨p,aj,u_⟩:=List.any_eq_true.1 h;obtain⟨b,a,aM,aS⟩:=aT p aj;grind [be,yD,mb,use]
 grind
theorem R0(aT:sT ops s e')(aD:∀ k,gk=some k->mb s.az ops (some k)=some (some true))(h:GL (be aP s.az) ops e' gk o=true):(iv aP T bs (be aP s.az) o).er (l' λr=>r.cy):=by
 cases ar:o.op with
 | pick c a b=>
  simp  [GL,ar]at h;obtain⟨E,L,ak⟩:=h;have bL:iv aP T bs (be aP s.az) o=cP aP T bs (be aP s.az) o:=by grind [iv,e1]
  rw[bL];unfold cP;rw[ar];simp only;split
  ·rename_i vd lC pA;have G7:vd:=by grind [G6]
   split
   ·split
    ·refine .da ⟨G7,λae=>?_⟩;have:(use (be aP s.az a)).1:=by
      rcases L with L | L
      ·grind [G6]
      ·exact aaz aT pA G7 L ae
     grind
    ·exact .ma
   ·split
    ·refine .da ⟨G7,λae=>?_⟩;have:(use (be aP s.az b)).1:=by
      rcases ak with ak | ak
      ·grind [G6]
      ·exact aaz aT pA G7 ak (by subst ae;rfl)
     grind
    ·exact .ma
   ·exact .ma
  ·exact .ma
 | _=>
  simp only[GL,ar]at h;exact Zx (aay aT aD h)
theorem aqP(aT:sT ops s e')(aD:∀ k,gk=some k->mb s.az ops (some k)=some (some true)){cy c:Prop}{ho vv:aL}{jC AU:List (Nat×b7)}(hw:K5 o ho jC=some (AU,vv))(D:(iv aP T bs (be aP s.az) o).run s.aa=some ⟨cy,c,ho,jC⟩)
  (h:Q7 (be aP s.az) e' gk o vv=true):(use vv).1:=by
 unfold Q7 at h;rw[aPO]at h;rcases h with h | h
 ·grind [Kw]
 ·split at h
  ·rename_i x ar;simp  [iv,e1,ar,cP]at D;obtain⟨_,_,rfl,rfl⟩:=D;obtain⟨_,rfl⟩:=hw;grind [G6]
  grind
end
theorem aC.G8{s:aC}{d:Option Nat}{v:aL}{i:Nat}(h:d≠some i):(s.set d v).az i=s.az i:=by
 cases d with
 | none=>rfl
 | some d=>grind [aC.set]
theorem aC.R1{s:aC}{v:aL}:(s.set (some d) v).az d=v:=by simp[aC.set]
theorem aC.C_:∀ (l:List (Nat×b7)) (s:aC),(s.iw l).az=s.az
 | [],_=>rfl
 | p::l,s=>by
  have:=aC.C_ l (s.cn p.1 p.2);exact this
theorem aqQ{aP:dV}{gs:Bool->cG.af->aC}(h:uh aP T bs Psi s o=some cG)(aD:cG.GD=some gs):∀ g y,∃ v,(gs g y).az=(s.set o.dst (.ku g v)).az:=by
 have after:∀ (t:V) (b9:List Nat) (v:aL),(ug s o t b9 v).az=(s.set o.dst v).az:=λt b9 v=>by
  unfold ug;split
  ·rfl
  ·cases o.dst<;>rfl
 have dI:∀ {args:List Operand} {c:jH} {cG:iD} {gs:Bool->cG.af->aC},GF aP s o args c=some cG->cG.GD=some gs->∀ g y,∃ v,(gs g y).az=(s.set o.dst (.ku g v)).az:=by
  intro args c cG gs h aD;unfold GF at h;split at h
  ·cases h;cases aD;exact λg y=>⟨_,after _ _ _⟩
  grind
 have KQ:∀ {t:Nat} {args:List Operand} {cG:iD} {gs:Bool->cG.af->aC},GG aP s o t args=some cG->cG.GD=some gs->∀ g y,∃ v,(gs g y).az=(s.set o.dst (.ku g v)).az:=by
  intro t args cG gs h aD;unfold GG at h;split at h
  ·split at h
   ·cases h;cases aD;exact λg y=>⟨_,after _ _ _⟩
   grind
  grind
 unfold uh at h;split at h
 ·split at h
  ·split at h
   ·split at h
    ·grind [GI,AR]
    ·grind [KT]
    ·split at h
     ·exact dI h aD
     grind
   ·split at h
    ·rename_i D;cases h;exact KQ D aD
    ·split at h
     ·rename_i D;unfold KX GI AR at D;grind
     ·split at h
      ·rename_i D;unfold KV AR at D;grind
      ·grind [KY]
   grind
  grind
 ·grind [KZ]
 ·unfold K3 at h;grind
 ·grind [K4]
 ·grind [GK]
 ·grind [KW]
 grind
theorem Dr{t:Nat}(h:j4 x=some t):x=.tmp t:=by
 cases x<;>simp[j4]at h;rw[h]
theorem aaA{o gV nw lI:Oper}{d1 d2:Nat}(h:Df o gV nw=some (lI,d1,d2)):∃ ty m x y,o.op=.mapEntry ty m x/\o.dst=some d1/\gV.op=.extract (.tmp d1) 1/\gV.dst=some d2/\nw.op=.entryStore ty m (.tmp d2) y/\nw.dst=none/\
  lI.op=.mapUpdate ty m x y/\lI.dst=none/\m≠.tmp d1/\m≠.tmp d2/\y≠.tmp d1/\y≠.tmp d2/\o.guard=none/\gV.guard=none/\nw.guard=none:=by
 unfold Df at h;split at h
 ·split at h
  ·split at h
   ·split at h
    ·split at h
     ·rename_i hc;obtain⟨bE,c2,rfl,c4,c5,pk,rC,yo,c9,RI,GY,c12,aao⟩:=hc;obtain⟨q3,yL⟩:=Option.isSome_iff_exists.1 c4;have gM:=Dr yL;grind [Dr,Option.isNone_iff_eq_none]
     grind
    grind
   grind
  grind
 grind
theorem R2{bet:Type}(aT:ed C.P T)(dn:lE C.P bs)(dD:pz C.P C.aU Psi)(aw:∀ o∈ops.toList,mU o C.bV=true){k:aC->M bet}{O:bet->Prop}
  (an:∀ s' a' w',dc C s' a' w'->c6 (k s') O->Q .normal a' w'):∀ (os:List Oper) (n:Nat) (e':rJ) (s:aC) (a:Act) (w:World),ops.toList.drop n=os->sT ops s e'->dc C s a w->c6 (oR C.aU T bs Psi ops os e' s k) O->
   wpOpsIn (eZ C.r) 0 C.P ops Q (List.range' n os.length) a w:=by
 intro os;generalize hlen:os.length=len;induction len using Nat.strongRecOn generalizing os with
 | _ len aaB=>
 subst hlen;cases os with
 | nil=>
  intro n e' s a w _ _ D hm;exact an s a w D hm
 | cons o os=>
  have aO:=aaB os.length (by simp) os rfl;intro n e' s a w aA Ba D hm;have dk:n<ops.toList.length:=by
   grind
  rw[aPE dk]at aA;injection aA with w0 jj
  have fz:ops[n]?=some o:=by
   grind
  have ob:=w0 ▸ amm dk;have Lr:=aw o ob;have bh:∀ i,o.dst=some i->i<C.bV:=λi G=>by
   have:=Lr;simp  [mU]at this;grind
  simp  [aRm,wpOpsIn,fz];obtain⟨kap,F,gZ⟩:=D;unfold oR at hm;split at hm
  ·rename_i lI d1 d2 sU;cases os with
   | nil=>exact hm.1.elim
   | cons gV os=>
    cases os with
    | nil=>exact hm.1.elim
    | cons nw os=>
     simp  at hm;split at hm
     ·rename_i res gW;obtain⟨ty,m,x,y,f1,f2,f3,f4,f5,f6,f7,f8,f9,f10,f11,f12,dx,ec,jF⟩:=aaA sU;have aaC:=jj;have Ki:n+1<ops.toList.length:=by
       grind
      rw[aPE Ki]at aaC;injection aaC with aLN aaD
      have aqR:n+2<ops.toList.length:=by
       grind
      rw[aPE aqR]at aaD;injection aaD with aLO aqS
      have aLP:ops[n+1]?=some gV:=by
       grind
      have R3:d2<C.bV:=by
       grind [List.getElem_mem,mU]
      rw[h6,h6]at hm;have cf:Region.wanted o (yielded ops a.tmps)=true:=by grind [Region.wanted]
      have dL:∀ a':Act,Region.wanted gV (yielded ops a'.tmps)=true:=λa'=>by grind [Region.wanted]
      have hG:∀ a':Act,Region.wanted nw (yielded ops a'.tmps)=true:=λa'=>by grind [Region.wanted]
      have:=aqy (Q:=Q)   aT f1 f2 f3 f4 f5 f6 f7 f8 f9 f10 f11 f12 (bh d1 f2) R3 gW gZ hm.1 hm.2.1
       λa' w' bj=>aaB os.length (by grind) os rfl (n+3) [] _ a' w' aqS (λp aj=>by grind) bj hm.2.2
      simp  [aRm,wpOpsIn];grind
     ·exact hm.1.elim
  split at hm
  ·exact hm.1.elim
  ·rename_i aD;have aLQ:o.guard=none:=by
    cases h:o.guard with
    | none=>rfl
    | some p=>
     grind [mb]
   rw[Lq gZ aD];split at hm
   ·rename_i res gW;rw[A' λU=>(R0 Ba   (λk an=>by grind) U).run s.aa res gW,A' λU=>(Gw U).run s.aa res gW]at hm;refine Oper.wpIn_mono (λa' w' bj=>aO (n+1) _ _ a' w' jj (Ba.i_ (λi G=>?_) λd k _ an=>by grind) bj hm.2.2) (C6 aT dn Lr gW a w kap F Q gZ hm.1 hm.2.1);grind [aC.jE,aC.G8,aC.C_]
   ·split at hm
    ·rename_i cG q2;obtain⟨e8,e_,mv⟩:=RX aT dn dD bh q2;rw[A' λU=>mv (Qv U),fD]at hm;exact e8 a w Q _ ⟨kap,F,gZ⟩ hm.1 (hm.2.mono λy a_ a' w' bj=>aO (n+1) _ _ a' w' jj (λp aj=>by grind) bj a_)
    ·exact hm.1.elim
  ·rename_i g aD;have Ds:∀ k,o.guard=some k->g=true->mb s.az ops (some k)=some (some true):=λk an aG=>by grind
   rw[Lq gZ aD];split at hm
   ·rename_i cy c aqT aqU gW;split at hm
    ·rename_i jC ho yM;obtain⟨aqV,aqW⟩:=aqL yM gW;rw[A' λU=>by
      simp  at U;exact λG9=>⟨(R0 Ba (λk an=>Ds k an G9) U.1).run s.aa _ gW,(Gw U.2.1).run s.aa _ gW,aqP Ba (λk an=>Ds k an G9) yM gW U.2.2⟩]at hm
     have G_:sT ops ((s.iw jC).set o.dst (.ku g (use ho).2)) (AS ops e' o):=Ba.i_ (λi G=>by rw[aC.G8 G,aC.C_]) λd k aw an=>⟨g,(use ho).2,by rw[aw,aC.R1],by grind⟩
     cases g with
     | true=>
      obtain⟨E,L,ak⟩:=hm.1 rfl;refine Oper.wpIn_mono (λa' w' bj=>aO (n+1) _ _ a' w' jj G_ (dc.Rr   (aqV a' w' bj) bh λkap F v ae=>⟨λ_=>qN ae ak,λh=>(by grind)⟩) hm.2) (C6 aT dn Lr gW a w kap F Q gZ E L)
     | false=>
      refine⟨λ_ _=>trivial,aO (n+1) _ _ _ w jj G_ ?_ hm.2⟩;obtain⟨bR,F',aqX⟩:=aqW a w kap F gZ;exact⟨bR,F',aqX.set   bh ⟨λh=>(by grind),λ_=>rfl⟩⟩
    ·cases g with
     | true=>
      simp  at hm ⊢;rw[h6,h6]at hm;exact Oper.wpIn_mono (λa' w' bj=>aO (n+1) _ _ a' w' jj (λp aj=>by grind) bj hm.2.2) (C6 aT dn Lr gW a w kap F Q gZ hm.1 hm.2.1)
     | false=>
      exact⟨λ_ _=>trivial,aO (n+1) _ _ _ w jj (λp aj=>by grind) ⟨kap,F,gZ.set (av:=.ku false (ZT aqU (use aqT).2)) bh ⟨λh=>(by grind),λ_=>rfl⟩⟩ hm⟩
   ·split at hm
    ·rename_i cG q2;obtain⟨e8,e_,mv⟩:=RX aT dn dD bh q2;split at hm
     ·rename_i gs px;obtain⟨cO,cJ⟩:=e_ gs px;rw[A' λU G9=>mv (aay Ba (λk an=>Ds k an G9) U),fD]at hm;have G_:∀ y,sT ops (gs g y) (AS ops e' o):=λy=>by
       obtain⟨v,ae⟩:=aqQ q2 px g y;exact Ba.i_ (λi G=>by rw[ae,aC.G8 G]) λd k aw an=>⟨g,v,by grind [aC.R1],by grind⟩
      cases g with
      | true=>
       exact e8 a w Q _ ⟨kap,F,gZ⟩ (hm.1 rfl) (hm.2.mono λy a_ a' w' bj=>aO (n+1) _ _ a' w' jj (G_ y) (cO y a' w' bj) a_)
      | false=>
       exact⟨λ_ _=>trivial,aO (n+1) _ _ _ w jj (G_ cG.d) (cJ a w ⟨kap,F,gZ⟩) (by
        have h:=hm.2;exact h.2 cG.d rfl)⟩
     ·cases g with
      | true=>
       simp  at hm ⊢;rw[h6,fD]at hm;exact e8 a w Q _ ⟨kap,F,gZ⟩ hm.1 (hm.2.mono λy a_ a' w' bj=>aO (n+1) _ _ a' w' jj (λp aj=>by grind) bj a_)
      | false=>
       exact⟨λ_ _=>trivial,aO (n+1) _ _ _ w jj (λp aj=>by grind) ⟨kap,F,gZ.set (av:=.ku false (use ((cG.ad cG.d).az (o.dst.getD 0))).2) bh ⟨λh=>(by grind),λ_=>rfl⟩⟩ hm⟩
    ·exact hm.1.elim
end
end Go.Fer
namespace Go.Fer
open Go.RowKit
section
variable {C:cF} {T:Nat->V} {bs:Nat->Option aN} {s:aC} {res:eA}
variable {P:Program}
theorem aqY:∀ (t:V),t.oJ=true->∀ {F F':Nat->Prop} {w w':World} {cs:List Value} {x:t.al},cp P t F w cs x->cp P t F' w' cs x:=by
 intro t;induction t with
 | bool=>intro _ F F' w w' cs x h;exact h
 | int k=>intro _ F F' w w' cs x h;exact h
 | str=>intro _ F F' w w' cs x h;exact h
 | dh=>intro hc;cases hc
 | ad t aO=>intro hc F F' w w' cs x h;exact aO hc h
 | au a b gI fS=>
  intro hc F F' w w' cs x h;simp  [V.oJ]at hc;simp  [cp]at h ⊢;grind
 | slice e aO=>intro hc;cases hc
 | array n e aO=>intro hc;cases hc
 | bM e aO=>intro hc;cases hc
 | map k v zY zZ=>intro hc;cases hc
 | fn a b gI fS=>intro hc;cases hc
 | cE a aO=>intro hc;cases hc
 | eW=>intro hc;cases hc
 | cN e aO=>intro hc;cases hc
theorem aaE{t:V}(h:t.oJ=true){F F':Nat->Prop}{w w':World}{v:Value}{x:t.al}(ae:fo P t F w v x):fo P t F' w' v x:=⟨ae.1,aqY t h ae.2⟩
theorem Ls(a:Act){i j:Nat}(h:i≠j)(v u:Value):(a.put (some i) v).put (some j) u=(a.put (some j) u).put (some i) v:=by
 simp  [Act.put];rw[Array.setIfInBounds_comm _ _ h]
theorem Lt{ty nu C0:TypeId}(G:P.underlying ty=some (.map nu C0)){r:Nat}{ms:Array MapEntry}{clk:Nat}{w:World}(hw:w.heap[r]?=some (.map ms clk)){key u:Value}{f:Option (Nat×Value)}
  (e3:(Instr.checkKey ms.isEmpty 10000 nu key).run P w=.ok () w) (ax:(Instr.findKey nu key ms.toList).run P w=.ok f w) (hu:(∃ i,f=some (i,u))\/(f=none/\(zeroValue C0).run P w=.ok u w)) :
  (Instr.lookup ty (.map (some r)) key false).run P w=.ok u w:=by
 have fz:(getObj r).run P w=.ok (.map ms clk) w:=by simp[getObj,Sem.run,hw]
 rcases hu with⟨i,rfl⟩ | ⟨rfl,bA⟩
 ·simp only[Instr.lookup,Sem.run_bind,en G,Result.andThen_ok,Sem.run_pure,fz,e3,ax];rfl
 ·simp only[Instr.lookup,Sem.run_bind,en G,Result.andThen_ok,Sem.run_pure,fz,e3,ax,bA];rfl
theorem aqZ(aT:ed C.P T){ia jI lI:Oper}{ty:TypeId}{m x y:Operand}(kn:ia.op=.lookup ty m x false)(my:jI.op=.mapEntry ty m x)(iM:lI.op=.mapUpdate ty m x y){s2:aC}(w1:s2.aa=s.aa)
  (cS:be C.aU s2.az m=be C.aU s.az m) (Ao:be C.aU s2.az x=be C.aU s.az x) (h:(iv C.aU T bs (be C.aU s2.az) lI).run s2.aa=some res)
  {a:Act} {w:World} {kap:Nat->bI} {F:Nat->Prop} (D:bw C s a w kap F) (R4:(use (be C.aU s.az m)).1) (R5:(use (be C.aU s.az x)).1) :
  ∃ u n wE,∀ a':Act,a'.eval m=a.eval m->a'.eval x=a.eval x->
   (execOp a'.eval ia).run C.P w=.ok (.value u) w/\(execOp a'.eval ia).run C.P wE=.ok (.value u) wE/\(execOp a'.eval jI).run C.P w=.ok (.value (.tuple #[u,goInt n])) wE:=by
 simp only[iv,e1,iM,cP,vc,cS,Ao,w1]at h;split at h
 ·rename_i k v aG;obtain⟨nu,C0,G,pr,kj⟩:=(aT.cB aG (by simp)).mp;obtain⟨inf,oT,i1,i2,i3,i4,i5,i6⟩:=nq kj.np;split at h
  ·rename_i A_;split at h
   ·rename_i b g w4;simp only[aE.fZ,amj,aE.run_bind,aE.gU,aE.dy]at h;obtain⟨⟨eP,sB⟩,ao,⟨sH,ld⟩,a_,h⟩:=h;split at h
    ·rename_i aD;obtain⟨aD,_⟩:=aD;split at h
     ·rename_i k' iu es U;simp only[aP3]at h;obtain⟨Y_,rD,rfl⟩:=h;obtain⟨e,rfl⟩:=mN rD;cases e;have hm:bJ C.P s.aa kap F w (use (be C.aU s.az m)).2 (a.eval m):=db D m rfl R4;rw[w4]at hm;have mT:=hm.2 aD.symm (by rw[U];rfl);have gE:k.oJ=true/\k.nr<=100:=by simpa [yn]using A_
      have w5:=F4 D ao (db D x rfl R5);have Lu:∀ (F':Nat->Prop) w',fo C.P k F' w' (a.eval x) eP:=λF' w'=>aaE gE.1 w5;have aX:=D.bC b;unfold c7 at aX;rw[U]at aX;obtain⟨ms,clk,hw,qU⟩:=aX;have e3:∀ em w',(Instr.checkKey em 10000 nu (a.eval x)).run C.P w'=.ok () w':=λem w'=>(Gj (em:=em) (F:=λ_=>True) k 10000 gE.1 (by omega)).1 pr (Lu _ w');have aaF:=qU.es;have aq0:∀ (j:Nat) (e:MapEntry) (p:k.al×v.al),ms.toList[j]?=some e->es[j]?=some p->∀ (F':Nat->Prop) w',fo C.P k F' w' e.key p.1:=λj e p E L F' w'=>aaE gE.1 (aaF.2 j e p E L).1;obtain⟨f,cO,cJ⟩:=Az (F:=λ_=>True) (w:=w) (bet:=v.al) (xs:=es) (es:=ms.toList) A_ pr (Lu _ w) aaF.1 (λj e p E L=>aq0 j e p E L _ w);have fz:(getObj (kap b).aa).run C.P w=.ok (.map ms clk) w:=by simp[getObj,Sem.run,hw]
      obtain⟨ir,Qm,Qn,Y'⟩:=qU;have dk:(kap b).aa<w.heap.size:=(Array.getElem?_eq_some_iff.1 hw).1;have bA:∀ w',(zeroValue C0).run C.P w'=.ok oT w':=λw'=>sD i1 i4;have Lv:∀ (a':Act) (w':World) (u:Value),a'.eval m=a.eval m->a'.eval x=a.eval x->(Instr.lookup ty (.map (some (kap b).aa)) (a.eval x) false).run C.P w'=.ok u w'->(execOp a'.eval ia).run C.P w'=.ok (.value u) w':=by
       intro a' w' u aB bt bj;simp only[execOp,kn,aB,bt,mT,Sem.run_bind,bj,Result.andThen_ok,Sem.run_pure]
      have aq1:∀ q:k.al,iJ k eP q=true<->eP=q:=λq=>Qi k gE.1 eP q;rcases cJ with⟨rfl,eM⟩ | ⟨j,e,p,dx,ec,jF,g4,rfl⟩
      ·let cf:World:={ w with heap:=w.heap.setIfInBounds (kap b).aa (.map (ms.push { key:=a.eval x,val:=oT,born:=clk }) (clk+1)) }
       have n':cf.heap[(kap b).aa]?=some (.map (ms.push { key:=a.eval x,val:=oT,born:=clk }) (clk+1)):=by grind
       obtain⟨kz,ck,c8⟩:=Az (F:=λ_=>True) (w:=cf) (bet:=v.al) (xs:=es++[(eP,v.dU)]) (es:=(ms.push { key:=a.eval x,val:=oT,born:=clk }).toList) A_ pr (Lu _ cf) (by grind) (λj e p E L=>by
        grind)
       have vy:∃ i,kz=some (i,oT):=by
        rcases c8 with⟨_,fB⟩ | ⟨j,e,p,s1,s2,e4,kH,rfl⟩
        ·have:=fB (eP,v.dU) (by simp);grind
        ·by_cases aJ:j<es.length
         ·grind
         grind
       refine⟨oT,clk,cf,λa' aB bt=>⟨Lv a' w oT aB bt (Lt G hw (e3 _ w) cO (.inr ⟨rfl,bA w⟩)),Lv a' cf oT aB bt (Lt G n' (e3 _ cf) ck (.inl vy)),?_⟩⟩;simp only[execOp,my,aB,bt,mT,Instr.mapEntry,Sem.run_bind,en G,Result.andThen_ok,fz,e3,cO,bA,vl hw,Sem.run_pure];rfl
      ·have aJ:j<es.length:=(List.getElem?_eq_some_iff.1 ec).1;have Rt:j<ms.size:=by omega
       have aob:ms[j]=e:=by
        grind
       obtain⟨oa,cf,t1,bU,cX⟩:=Qk C.P w e.key (a.eval x);have n':cf.heap[(kap b).aa]?=some (.map ms clk):=by rcases cX with rfl | rfl<;>exact hw
       have aau:(kap b).aa<cf.heap.size:=(Array.getElem?_eq_some_iff.1 n').1;have n9:((ms[j]?).map (·.key)).getD (a.eval x)=e.key:=by
        grind
       have RW:((ms[j]?).map (λx=>(x.born:Int))).getD 0=(ms[j].born:Int):=by grind
       rw[aQs]at cO;have FJ:eP=p.1:=(aq1 p.1).1 jF;let dL:World:={ cf with heap:=cf.heap.setIfInBounds (kap b).aa (.map (ms.modify j λe=>{ e with key:=oa }) clk) }
       have gF:dL.heap[(kap b).aa]?=some (.map (ms.modify j λe=>{ e with key:=oa }) clk):=by grind
       have F5:∀ (F':Nat->Prop) w',fo C.P k F' w' oa p.1:=λF' w'=>by
        grind
       have yt:∀ i,(ms.modify j λe=>{ e with key:=oa }).toList[i]?=if i=j then some { e with key:=oa } else ms.toList[i]?:=λi=>by
        grind
       obtain⟨kz,ck,c8⟩:=Az (F:=λ_=>True) (w:=dL) (bet:=v.al) (xs:=es) (es:=(ms.modify j λe=>{ e with key:=oa }).toList) A_ pr (Lu _ dL) (by grind) (λi aY p' E L=>by
        rw[yt]at E;grind)
       have vy:∃ i,kz=some (i,e.val):=by
        rcases c8 with⟨_,fB⟩ | ⟨i,aY,p',s1,s2,e4,kH,rfl⟩
        ·have:=fB p (aQx ec);rw[jF]at this;cases this
        ·have AG:i=j:=by
          rcases Nat.lt_trichotomy i j with h | h | h
          ·have:=g4 i p' h s2;rw[e4]at this;cases this
          ·exact h
          ·have:=kH j p h ec;rw[jF]at this;cases this
         subst AG;rw[yt,if_pos rfl]at s1;cases s1;exact⟨_,rfl⟩
       refine⟨e.val,ms[j].born,dL,λa' aB bt=>⟨Lv a' w e.val aB bt (Lt G hw (e3 _ w) cO (.inl ⟨_,rfl⟩)),Lv a' dL e.val aB bt (Lt G gF (e3 _ dL) ck (.inl vy)),?_⟩⟩;simp only[execOp,my,aB,bt,mT,Instr.mapEntry,Sem.run_bind,en G,Result.andThen_ok,fz,e3,cO];rw[n9,t1];simp only[Result.andThen_ok,vl n',Sem.run_pure,RW];rfl
     grind
    grind
   ·cases h
  ·cases h
 ·cases h
end
end Go.Fer
