/- Part 3 of the proof of TopFees: shallow programs of Go functions, and what they compute. No condition. -/
import Derived.Test.YtjjgkigajpocoaaGreatDoorTopFeesB
import Derived.Lib.ConvBytes
noncomputable section
set_option linter.unusedVariables false
set_option linter.unusedSimpArgs false
namespace Go.Fer
open Go.RowKit
universe u
variable {bet:Type}
def eb:L bet:=⟨False,λ_=>False⟩
inductive cf where
 | undef
 | val (t:aa)
 | eL (t:aa)
 | eZ (b off:Nat)
 | own (b:Nat)
 | sub (b:Nat)
 | hq (b:Nat)
 | l9 (b:Nat)
 | dd
 | jl (k:FuncId) (hK:z9')
 | aS (aK:aa)
 | iw
 | fG (dE:List Nat)
 | ke (b:Nat)
 | hS (b:Nat)
 deriving DecidableEq
inductive cc where
 | cells (t:aa) (l:List cf)
 | bo (e:aa)
 | jD (e:aa)
 | mp (k v:aa)
 | lh (k v:aa)
 | gE (t:aa)
 | ix (t:aa)
 | cI (k v:aa)
 | ie (e:aa) (t:cf)
 | bU (e:aa)
def cf.cons(t:cf)(R:Type):Type:=
 match t with
 | .val t=>t.aq×R
 | .eL t=>t.aq×R
 | .sub _=>(z21')×R
 | .aS aK=>(Nat×(List aK.aq->Prop)×List aK.aq×Bool)×R
 | .iw=>Nat×R
 | .ke _=>Nat×R
 | _=>R
def s3:List cf->Type->Type
 | [],R=>R
 | t::l,R=>t.cons (s3 l R)
def cc.cons(t:cc)(R:Type):Type:=
 match t with
 | .cells _ l=>s3 l R
 | .bo e=>List e.aq×R
 | .jD e=>List e.aq×R
 | .mp k v=>List (k.aq×v.aq)×R
 | .lh k v=>List (k.aq×v.aq)×R
 | .gE t=>t.aq×R
 | .ix t=>t.aq×R
 | .cI k v=>(Option (k.aq×v.aq)×List (k.aq×v.aq))×R
 | .ie e t=>(List e.aq×Nat)×t.cons R
 | .bU e=>List (Nat×List e.aq)×R
def cc.l_:cc->Bool
 | .bU _=>true
 | _=>false
def cc.GX:cc->Bool
 | .cells _ _ | .bo _ | .mp _ _ | .gE _ | .cI _ _ | .ie _ _=>true
 | _=>false
def cc.Lc(t u:cc):Bool:=
 match t,u with
 | .cells _ _,.cells _ _ | .cells _ _,.gE _ | .gE _,.cells _ _ | .gE _,.gE _ | .ix _,.cells _ _ | .ix _,.gE _=>true
 | .mp _ _,.mp _ _ | .lh _ _,.mp _ _=>true
 | .bo e,.bo a1=>decide (e=a1)
 | .jD _,.bo _=>true
 | _,_=>false
structure eD where
 b5:List (Nat×cf)
 bH:List (Nat×cc)
def pD:List (Nat×cc)->Type
 | []=>Unit
 | p::l=>p.2.cons (pD l)
def rk:List (Nat×cf)->Type->Type
 | [],R=>R
 | p::l,R=>p.2.cons (rk l R)
def eD.aq(sh:eD):Type:=rk sh.b5 (pD sh.bH)
def yL(g:Nat->z21')(hK:z9'):Nat->aN:=h5 (hK.map λp=>.eZ (g p.1).1 (g p.1).2 p.2)
def yM(g:Nat->z21')(dE:List Nat):Nat->aN:=h5 (dE.map λb=>.own (g b).1 (g b).2)
variable {R:Type}
def cf.av(g:Nat->z21')(t:cf)(x:t.cons R):aN×R:=
 match t,x with
 | .undef,x=>(.undef,x)
 | .val t,x=>(.val t x.1,x.2)
 | .eL t,x=>(.eL t x.1,x.2)
 | .eZ b off,x=>(.eZ (g b).1 (g b).2 off,x)
 | .own b,x=>(.own (g b).1 (g b).2,x)
 | .sub b,x=>(.sub (g b).1 (g b).2 x.1.1 x.1.2,x.2)
 | .hq b,x=>(.hq (g b).1 (g b).2,x)
 | .l9 b,x=>(.l9 (g b).1 (g b).2,x)
 | .dd,x=>(.dd,x)
 | .jl k hK,x=>(.jl k hK.length (yL g hK),x)
 | .aS aK,x=>(.aS x.1.1 aK x.1.2.1 x.1.2.2.1 x.1.2.2.2,x.2)
 | .iw,x=>(.iw x.1,x.2)
 | .fG dE,x=>(.agg dE.length (yM g dE),x)
 | .ke b,x=>(.ke (g b).1 (g b).2 x.1,x.2)
 | .hS b,x=>(.hS (g b).1 (g b).2,x)
def r0(g:Nat->z21'):(l:List cf)->{R:Type}->s3 l R->List aN×R
 | [],_,x=>([],x)
 | t::l,_,x=>let (a,y):=t.av g x;let (as,z):=r0 g l y;(a::as,z)
def cc.body(g:Nat->z21')(t:cc)(x:t.cons R):ca×R:=
 match t,x with
 | .cells t l,x=>let (as,y):=r0 g l x;(.cells t (h5 as),y)
 | .bo e,x=>(.bo e x.1,x.2)
 | .jD e,x=>(.jD e x.1,x.2)
 | .mp k v,x=>(.mp k v x.1,x.2)
 | .lh k v,x=>(.lh k v x.1,x.2)
 | .gE t,x=>(.cells t (h5 (qc t x.1)),x.2)
 | .ix t,x=>(.ix t x.1,x.2)
 | .cI k v,x=>(.cI k v x.1.1 x.1.2,x.2)
 | .ie e t,x=>let (a,y):=t.av g x.2;(.ie e x.1.1 x.1.2 a,y)
 | .bU e,x=>(.bU e x.1,x.2)
def eV(g:Nat->z21'):(l:List (Nat×cf))->{R:Type}->rk l R->List (Nat×aN)×R
 | [],_,x=>([],x)
 | p::l,_,x=>let (a,y):=p.2.av g x;let (as,z):=eV g l y;((p.1,a)::as,z)
def ha(g:Nat->z21'):(l:List (Nat×cc))->pD l->List (Nat×ca)
 | [],_=>[]
 | p::l,x=>let (a,y):=p.2.body g x;(p.1,a)::ha g l y
def fw:List (Nat×aN)->Nat->aN
 | [],_=>.undef
 | p::l,i=>if i=p.1 then p.2 else fw l i
def eP:List (Nat×ca)->Nat->b_
 | [],_=>⟨0,.ez⟩
 | p::l,i=>if i=p.1 then ⟨0,p.2⟩ else eP l i
def Z8(apZ:List (Nat×aN))(dE:List (Nat×ca)):aE:=⟨fw apZ,eP dE⟩
def dB(b:Nat):z21':=(b,0)
def eD.ae(sh:eD)(A:sh.aq):aE:=
 Z8 (eV dB sh.b5 A).1 (ha dB sh.bH (eV dB sh.b5 A).2)
def A6(H:Nat->b_)(t:aa)(av:aN)(r:Option (R×List Nat)):Option ((t.aq×R)×List Nat):=
 match (en t av).run H with
 | some (x,l)=>match r with
  | some (y,m)=>some ((x,y),l++m)
  | none=>none
 | none=>none
def Q3(t:aa)(av:aN)(r:Option (R×List Nat)):Option ((t.aq×R)×List Nat):=
 match av with
 | .eL dO x=>match r with
  | some (y,m)=>if h:dO=t then some ((h ▸ x,y),m) else none
  | none=>none
 | _=>none
def Q4(H:Nat->b_)(b:Nat)(av:aN)(r:Option (R×List Nat)):Option (((z21')×R)×List Nat):=
 match r with
 | some (y,m)=>match av with
  | .own bk g=>if (bk == b&&g == (H b).gen&&(H b).body.gT)=true then some (((0,(H b).body.len),y),m) else none
  | .sub bk g ba G=>if (bk == b&&g == (H b).gen)=true then some (((ba,G),y),m) else none
  | _=>none
 | none=>none
def Q5(aK:aa)(av:aN)(r:Option (R×List Nat)):Option (((Nat×(List aK.aq->Prop)×List aK.aq×Bool)×R)×List Nat):=
 match av with
 | .aS l nb ad n ae=>match r with
  | some (y,m)=>if h:nb=aK then some (((l,h ▸ ad,h ▸ n,ae),y),m) else none
  | none=>none
 | _=>none
def Q6(av:aN)(r:Option (R×List Nat)):Option ((Nat×R)×List Nat):=
 match av with
 | .iw l=>match r with
  | some (y,m)=>some ((l,y),m)
  | none=>none
 | _=>none
def Q7(H:Nat->b_)(b:Nat)(av:aN)(r:Option (R×List Nat)):Option ((Nat×R)×List Nat):=
 match av with
 | .ke bk g i=>match r with
  | some (y,m)=>if (bk == b&&g == (H b).gen)=true then some ((i,y),m) else none
  | none=>none
 | _=>none
def Ld(H:Nat->b_)(b off:Nat)(av:aN):Bool:=
 match av with
 | .eZ bk g ap0=>bk == b&&ap0 == off&&g == (H b).gen
 | _=>false
def Le(H:Nat->b_)(b:Nat)(av:aN):Bool:=
 match av with
 | .own bk g=>bk == b&&g == (H b).gen
 | _=>false
def Q8(H:Nat->b_)(b:Nat)(av:aN):Bool:=
 match av with
 | .hq bk g=>bk == b&&g == (H b).gen
 | _=>false
def Q9(H:Nat->b_)(b:Nat)(av:aN):Bool:=
 match av with
 | .l9 bk g=>bk == b&&g == (H b).gen
 | _=>false
def Q_(H:Nat->b_)(b:Nat)(av:aN):Bool:=
 match av with
 | .eZ bk g 0=>bk == b&&g == (H b).gen
 | .hS bk g=>bk == b&&g == (H b).gen
 | .val (.bP _) none=>true
 | .lg (.pointer none)=>true
 | _=>false
def Q'(av:aN):Bool:=
 match av with
 | .dd=>true
 | _=>false
def Ra(H:Nat->b_)(f:Nat->Nat)(k:FuncId)(hK:z9')(av:aN):Bool:=
 match av with
 | .jl k' n dS=>k' == k&&n == hK.length&&(List.range n).all λi=>match hK[i]? with
  | some p=>Ld H (f p.1) p.2 (dS i)
  | none=>false
 | _=>false
def Rb(H:Nat->b_)(f:Nat->Nat)(dE:List Nat)(av:aN):Bool:=
 match av with
 | .agg n h=>n == dE.length&&(List.range n).all λi=>match dE[i]? with
  | some b=>Le H (f b) (h i)
  | none=>false
 | _=>false
variable {af:Type}
def xq(b:Bool)(r:Option af):Option af:=match b with | true=>r | false=>none
def cf.k0(H:Nat->b_)(f:Nat->Nat)(t:cf)(av:aN)(r:Option (R×List Nat)):Option (t.cons R×List Nat):=
 match t with
 | .undef=>r
 | .val t=>A6 H t av r
 | .eL t=>Q3 t av r
 | .eZ b off=>xq (Ld H (f b) off av) r
 | .own b=>xq (Le H (f b) av) r
 | .sub b=>Q4 H (f b) av r
 | .hq b=>xq (Q8 H (f b) av) r
 | .l9 b=>xq (Q9 H (f b) av) r
 | .dd=>xq (Q' av) r
 | .jl k hK=>xq (Ra H f k hK av) r
 | .aS aK=>Q5 aK av r
 | .iw=>Q6 av r
 | .fG dE=>xq (Rb H f dE av) r
 | .ke b=>Q7 H (f b) av r
 | .hS b=>xq (Q_ H (f b) av) r
def Dx(H:Nat->b_)(f:Nat->Nat):(l:List cf)->(Nat->aN)->Nat->{R:Type}->Option (R×List Nat)->Option (s3 l R×List Nat)
 | [],_,_,_,r=>r
 | t::l,c,i,_,r=>t.k0 H f (c i) (Dx H f l c (i+1) r)
def Rc(H:Nat->b_)(f:Nat->Nat)(t:aa)(l:List cf)(b:ca)(r:Option (R×List Nat)):Option (s3 l R×List Nat):=
 match b with
 | .cells dO c=>if dO=t/\t.size=l.length then Dx H f l c 0 r else none
 | _=>none
def Re(e:aa)(b:ca)(r:Option (R×List Nat)):Option ((List e.aq×R)×List Nat):=
 match b with
 | .bo a1 xs=>match r with
  | some (y,m)=>if h:a1=e then some ((h ▸ xs,y),m) else none
  | none=>none
 | _=>none
def Rf(k v:aa)(b:ca)(r:Option (R×List Nat)):Option ((List (k.aq×v.aq)×R)×List Nat):=
 match b with
 | .mp k' iA es=>match r with
  | some (y,m)=>if h:k'=k/\iA=v then some ((h.1 ▸ h.2 ▸ es,y),m) else none
  | none=>none
 | _=>none
def Rg(k v:aa)(b:ca)(r:Option (R×List Nat)):Option (((Option (k.aq×v.aq)×List (k.aq×v.aq))×R)×List Nat):=
 match b with
 | .cI k' iA c es=>match r with
  | some (y,m)=>if h:k'=k/\iA=v then some (((h.1 ▸ h.2 ▸ c,h.1 ▸ h.2 ▸ es),y),m) else none
  | none=>none
 | _=>none
def Rh(H:Nat->b_)(f:Nat->Nat)(e:aa)(t:cf)(b:ca)(r:Option (R×List Nat)):Option (((List e.aq×Nat)×t.cons R)×List Nat):=
 match b with
 | .ie a1 xs i v=>match t.k0 H f v r with
  | some (y,m)=>if h:a1=e then some (((h ▸ xs,i),y),m) else none
  | none=>none
 | _=>none
def Ri(e:aa)(b:ca)(r:Option (R×List Nat)):Option ((List (Nat×List e.aq)×R)×List Nat):=
 match b with
 | .bU a1 m=>match r with
  | some (y,l)=>if h:a1=e then some ((h ▸ m,y),l) else none
  | none=>none
 | .ez=>match r with
  | some (y,l)=>some (([],y),l)
  | none=>none
 | _=>none
def Rj(H:Nat->b_)(t:aa)(b:ca)(r:Option (R×List Nat)):Option ((t.aq×R)×List Nat):=
 match b with
 | .cells dO f=>if dO=t then A6 H t (.agg t.size f) r else none
 | _=>none
def Rk(H:Nat->b_)(t:aa)(b:Nat)(r:Option (R×List Nat)):Option ((t.aq×R)×List Nat):=
 match (en (.bP t) (.eZ b (H b).gen 0)).run H with
 | some (some x,l)=>match r with
  | some (y,m)=>some ((x,y),l++m)
  | none=>none
 | _=>none
def cc.k0(H:Nat->b_)(f:Nat->Nat)(t:cc)(b:Nat)(r:Option (R×List Nat)):Option (t.cons R×List Nat):=
 match t with
 | .cells t l=>Rc H f t l (H b).body r
 | .bo e=>Re e (H b).body r
 | .jD e=>A6 H (.slice e) (.own b (H b).gen) r
 | .mp k v=>Rf k v (H b).body r
 | .lh k v=>A6 H (.map k v) (.hq b (H b).gen) r
 | .gE t=>Rj H t (H b).body r
 | .ix t=>Rk H t b r
 | .cI k v=>Rg k v (H b).body r
 | .ie e t=>Rh H f e t (H b).body r
 | .bU e=>Ri e (H b).body r
def Dy(H:Nat->b_)(f:Nat->Nat):(l:List (Nat×cc))->Option (pD l×List Nat)
 | []=>some ((),[])
 | p::l=>p.2.k0 H f (f p.1) (Dy H f l)
def Dz(H:Nat->b_)(f:Nat->Nat):(l:List (Nat×cf))->(Nat->aN)->{R:Type}->Option (R×List Nat)->Option (rk l R×List Nat)
 | [],_,_,r=>r
 | p::l,c,_,r=>p.2.k0 H f (c p.1) (Dz H f l c r)
def eD.r1(sh:eD):List Nat:=sh.bH.filterMap λp=>if p.2.GX then some p.1 else none
def eD.DA(sh:eD)(f:Nat->Nat)(s:aE):Option (sh.aq×List Nat):=
 match Dz s.ab f sh.b5 s.aD (Dy s.ab f sh.bH) with
 | some (A,b')=>if sh.r1.all (λb=>!b'.contains (f b))=true then some (A,b') else none
 | none=>none
def Rl:List (Nat×cc)->Nat->Option cc
 | [],_=>none
 | p::l,b=>if b=p.1 then some p.2 else Rl l b
def Rm(s:aE)(i b bk g':Nat):aE:=
 match decide (bk≠b/\g'=(s.ab bk).gen),(s.ab bk).body with
 | true,.bo e xs=>⟨λj=>if j=i then .own b ((s.ab b).gen+1) else s.aD j,λj=>if j=b then ⟨(s.ab b).gen+1,.bo e xs⟩ else if j=bk then ⟨(s.ab bk).gen+1,.ez⟩ else s.ab j⟩
 | _,_=>s
def Rn(dE:List (Nat×cc))(s:aE)(i b:Nat):aE:=
 match s.aD i,Rl dE b with
 | .dd,some (.bo e)=>⟨λj=>if j=i then .own b ((s.ab b).gen+1) else s.aD j,(s.cq b ⟨(s.ab b).gen+1,.bo e []⟩).ab⟩
 | .own bk g',some (.bo _)=>Rm s i b bk g'
 | _,_=>s
def Ro(dE:List (Nat×cc))(s:aE)(c j b:Nat):aE:=
 match (s.ab c).body with
 | .cells t f=>match f j,(s.ab b).body,Rl dE b with
  | .dd,.ez,some (.bo e)=>(s.cq b ⟨(s.ab b).gen+1,.bo e []⟩).cq c ⟨(s.ab c).gen,.cells t λq=>if q=j then .own b ((s.ab b).gen+1) else f q⟩
  | _,_,_=>s
 | _=>s
def Lf(dE:List (Nat×cc)):List (Nat×cf)->aE->aE
 | [],s=>s
 | p::l,s=>Lf dE l (match p.2 with | .own b=>Rn dE s p.1 b | _=>s)
def Lg(dE:List (Nat×cc))(c:Nat):List cf->Nat->aE->aE
 | [],_,s=>s
 | t::l,j,s=>Lg dE c l (j+1) (match t with | .own b=>Ro dE s c j b | _=>s)
def Lh(dE:List (Nat×cc)):List (Nat×cc)->aE->aE
 | [],s=>s
 | p::l,s=>Lh dE l (match p.2 with | .cells _ ts=>Lg dE p.1 ts 0 s | _=>s)
def eD.Li(sh:eD)(s:aE):aE:=Lh sh.bH sh.bH (Lf sh.bH sh.b5 s)
def cc.Z9:cc->Bool
 | .bo _ | .jD _ | .ie _ _=>true
 | _=>false
def eD.tY(sh:eD)(s:aE):Bool:=sh.bH.all λp=>!(decide (Ar<=p.1)&&p.2.Z9)||decide ((s.ab p.1).gen=0)
def eD.k0(sh:eD)(s:aE):Option (sh.aq):=
 match sh.tY (sh.Li s) with
 | true=>(sh.DA (λb=>b) (sh.Li s)).map (·.1)
 | false=>none
def eD.pE(sh:eD)(s:aE)(k:sh.aq->L bet):L bet:=
 match sh.k0 s with
 | some A=>k A
 | none=>eb
def cf.A7(t:cf)(r:R):t.cons R:=
 match t with
 | .val t=>(t.dW,r)
 | .eL t=>(t.dW,r)
 | .sub _=>((0,0),r)
 | .aS _=>((0,λ_=>False,[],false),r)
 | .iw=>(0,r)
 | .ke _=>(0,r)
 | .undef | .eZ _ _ | .own _ | .hq _ | .l9 _ | .dd | .jl _ _ | .fG _ | .hS _=>r
def Z_:(l:List cf)->{R:Type}->R->s3 l R
 | [],_,r=>r
 | t::l,_,r=>t.A7 (Z_ l r)
def cc.A7(t:cc){R:Type}(r:R):t.cons R:=
 match t with
 | .cells _ l=>Z_ l r
 | .bo _=>([],r)
 | .jD _=>([],r)
 | .mp _ _=>([],r)
 | .lh _ _=>([],r)
 | .gE t=>(t.dW,r)
 | .ix t=>(t.dW,r)
 | .cI _ _=>((none,[]),r)
 | .ie _ t=>(([],0),t.A7 r)
 | .bU _=>([],r)
def Z':(l:List (Nat×cc))->pD l
 | []=>()
 | p::l=>p.2.A7 (Z' l)
def aaa:(l:List (Nat×cf))->{R:Type}->R->rk l R
 | [],_,r=>r
 | p::l,_,r=>p.2.A7 (aaa l r)
def eD.A7(sh:eD):sh.aq:=aaa sh.b5 (Z' sh.bH)
structure jN where
 ts:aa
 aS:aa
 sh:ts.aq->L aS.aq
 Lj:Bool
def aQ.dL(c:aQ):jN:=⟨c.ts,c.aS,c.sh,true⟩
def L.GY(m:L af):Prop:=∀ x y,m.a8 x->m.a8 y->x=y
open Classical in
def L.val(m:L af)(d:af):af:=if h:∃ x,m.a8 x then h.choose else d
def jN.Lk(c:jN):aQ:=⟨c.ts,c.aS,λx=>(c.sh x).fr,λx=>(c.sh x).val c.aS.dW⟩
structure cO where
 cC:eD
 a8:eD
 lu:z10'
 k1:Nat
 sh:cC.aq->L a8.aq
structure DB where
 ts:aa
 aK:aa
 pre:ts.aq->Prop
 seq:ts.aq->List aK.aq
inductive gw where
 | dL (c:jN)
 | eE (c:cO)
 | cI (c:DB)
 | aab (c:jN)
 | Ll (c:cO) (sh:Nat->c.cC.aq->L c.a8.aq) (ids:List Nat)
 | mI (c:aQ)
def Lm(bs:Nat->Option aQ)(Psi:Nat->Option gw)(k:Nat):Option aQ:=
 match Psi k with
 | some (.dL c)=>match c.Lj&&!qf c.aS with
  | true=>some c.Lk
  | false=>none
 | some (.mI c)=>some c
 | some _=>none
 | none=>bs k
def Rp(bs:Nat->Option aQ)(Psi:Nat->Option gw)(k:Nat):Option jN:=
 match Psi k with
 | some (.dL c)=>some c
 | some _=>none
 | none=>(bs k).bind λc=>if qf c.aS=true then none else some c.dL
structure iH where
 af:Type
 d:af
 cA:Prop
 m:L af
 ae:af->aE
 GZ:Option (Bool->af->aE)
def uA(s:aE)(o:Oper)(aS:aa)(b':List Nat)(v:aN):aE:=(if aS.pure then s else s.cE b').set o.dst v
def G0(aJ:dX)(s:aE)(o:Oper)(args:List Operand)(dL:jN):Option iH:=
 match (ki dL.ts ((args.map (bj aJ s.aD)).map λv=>(use v).2)).run s.ab with
 | some (x,b')=>some ⟨dL.aS.aq,dL.aS.dW,kk (args.map (bj aJ s.aD)),dL.sh x,λy=>uA s o dL.aS b' (q6 dL.aS y),some λg y=>uA s o dL.aS b' (.kB g (q6 dL.aS y))⟩
 | none=>none
def Ln(aJ:dX)(s:aE)(o:Oper)(args:List Operand)(dL:jN):Option iH:=
 match (ki dL.ts ((args.map (bj aJ s.aD)).map λv=>(use v).2)).run s.ab with
 | some (x,_)=>some ⟨dL.aS.aq,dL.aS.dW,kk (args.map (bj aJ s.aD)),dL.sh x,λy=>s.set o.dst (q6 dL.aS y),none⟩
 | none=>none
def G1(aJ:dX)(s:aE)(o:Oper)(t:Nat)(args:List Operand):Option iH:=
 match use (s.aD t) with
 | (cA,.val (.fn a b) f)=>match (ki a ((args.map (bj aJ s.aD)).map λv=>(use v).2)).run s.ab with
  | some (x,b')=>some ⟨b.aq,b.dW,cA/\kk (args.map (bj aJ s.aD)),f x,λy=>uA s o b b' (q6 b y),some λg y=>uA s o b b' (.kB g (q6 b y))⟩
  | none=>none
 | _=>none
def aac(t:cf)(av:aN):z9':=
 match t,av with
 | .eZ bk _,.eZ b _ _=>[(bk,b)]
 | .own bk,.own b _=>[(bk,b)]
 | .hS bk,.eZ b _ _=>[(bk,b)]
 | .hS bk,.hS b _=>[(bk,b)]
 | .sub bk,.own b _=>[(bk,b)]
 | .sub bk,.sub b _ _ _=>[(bk,b)]
 | .hq bk,.hq b _=>[(bk,b)]
 | .l9 bk,.l9 b _=>[(bk,b)]
 | .jl _ hK,.jl _ _ dS=>(List.range hK.length).filterMap λi=>match hK[i]?,dS i with
  | some p,.eZ b _ _=>some (p.1,b)
  | _,_=>none
 | _,_=>[]
def aad:List cf->(Nat->aN)->Nat->z9'
 | [],_,_=>[]
 | t::l,c,i=>aac t (c i)++aad l c (i+1)
def Rq:z9'->Nat->Option Nat
 | [],_=>none
 | p::l,b=>if b=p.1 then some p.2 else Rq l b
def aae(H:Nat->b_):List (Nat×cc)->z9'->z9'
 | [],m=>m
 | p::l,m=>aae H l (m++match p.2,Rq m p.1 with
  | .cells _ ts,some b=>(match (H b).body with | .cells _ c=>aad ts c 0 | _=>[])
  | _,_=>[])
def ap1(sh:eD)(s:aE):z9':=aae s.ab sh.bH (sh.b5.flatMap λp=>aac p.2 (s.aD p.1))
def vO(s:aE)(cV:List aN):aE:=⟨λi=>if i=cd then s.aD cd else if i<cV.length then cV.getD i .undef else .undef,s.ab⟩
def s4:Nat:=99999
def s5(s:aE)(d:Nat)(f:Nat->Nat)(ins:List Nat):List (Nat×cc)->Nat->z8'
 | [],_=>[]
 | p::l,j=>(if p.2.l_ then (p.1,(cG,(s.ab cG).gen)) else if ins.contains p.1 then (p.1,(f p.1,match p.2 with
   | .cells _ _ | .gE _ | .mp _ _ | .ix _ | .lh _ _=>(s.ab (f p.1)).gen
   | .bo _=>if Ar<=p.1 then (s.ab (f p.1)).gen else (s.ab (f p.1)).gen+1
   | _=>(s.ab (f p.1)).gen+1)) else (p.1,(50000+10*d+j,(s.ab (50000+10*d+j)).gen+1)))::s5 s d f ins l (j+1)
def gM:z8'->Nat->z21'
 | [],_=>(s4,0)
 | p::l,b=>if b=p.1 then p.2 else gM l b
def s6:z10'->(Nat->aN)->Nat->List aN
 | [],_,_=>[]
 | none::l,c,i=>c i::s6 l c (i+1)
 | some n::l,c,i=>.agg n (λj=>c (i+j))::s6 l c (i+n)
def Rr(l:List aN):aN:=
 match l with
 | [v]=>v
 | l=>.sN l.length (h5 l)
def A8(s:aE)(c:cO)(f:Nat->Nat)(cr:z8')(bn:c.a8.aq):aE:=
 ⟨λi=>if i=cd then (if c.a8.b5.any (λp=>p.1 == cd) then fw (eV (gM cr) c.a8.b5 bn).1 cd else if c.cC.b5.any (λp=>p.1 == cd) then .undef else s.aD cd) else s.aD i,λb=>match cr.find? (λp=>p.2.1 == b) with
  | some p=>⟨p.2.2,(eP (ha (gM cr) c.a8.bH (eV (gM cr) c.a8.b5 bn).2) p.1).body⟩
  | none=>if (c.cC.r1.map f).contains b then ⟨(s.ab b).gen+1,.ez⟩ else s.ab b⟩
def ap2(s:aE)(o:Oper)(c:cO)(f:Nat->Nat)(cr:z8')(bn:c.a8.aq):aE:=
 aE.set (A8 s c f cr bn) o.dst (Rr (s6 c.lu (fw (eV (gM cr) c.a8.b5 bn).1) 0))
def Lo(l:List Nat):Bool:=decide l.Nodup
def aaf(ins a8:List (Nat×cc))(aS:aN):Bool:=
 (ins++a8).all (λp=>!p.2.l_||decide (p.1=cG))&&(!(ins.any λp=>p.2.l_)||a8.any λp=>p.2.l_)&&(!(a8.any λp=>p.2.l_)||match aS with | .aS ..=>false | _=>true)
def G2(c:cO)(f:Nat->Nat)(s2:aE)(cr:z8')(d n:Nat):Bool:=
  decide (d < 4000) && decide (c.a8.bH.length <= 10) && Lo (c.cC.bH.map (·.1)) && Lo (c.cC.bH.map λp => f p.1) && Lo (cr.map (·.1)) && Lo (cr.map (·.2.1)) && (c.cC.bH.map (·.1)).all (λb => decide (fD <= b))
        &&!(cr.map (·.2.1)).contains s4&&(match (s2.ab s4).body with | .ez=>true | _=>false)&&c.a8.bH.all (λp=>c.cC.bH.all λq=>!(p.1 == q.1&&q.2.GX)||p.2.Lc q.2)&&(decide (n=c.k1)&&decide (n<=fD))
        &&(aaf c.cC.bH c.a8.bH (s2.aD cd)&&(decide (f cG=cG)&&(!(s2.ab cG).body.l_||!c.a8.b5.any (λp=>p.1 == cd))))
def vP(aJ:dX)(s:aE)(args:List Operand):List aN:=(args.map (bj aJ s.aD)).map λv=>(use v).2
def vQ(c:cO)(s1:aE)(b:Nat):Nat:=if b=cG then cG else (Rq (ap1 c.cC s1) b).getD s4
def A9(s:aE)(o:Oper)(c:cO)(cV:List aN)(cA:Prop)(n:Nat):Option iH:=
 match c.cC.DA (vQ c (vO s cV)) (vO s cV) with
 | some (A,b')=>match G2 c (vQ c (vO s cV)) (s.cE b') (s5 (s.cE b') (o.dst.getD 0) (vQ c (vO s cV)) c.cC.r1 c.a8.bH 0) (o.dst.getD 0) n with
  | true=>some ⟨c.a8.aq,c.a8.A7,cA,c.sh A,λbn=>ap2 (s.cE b') o c (vQ c (vO s cV)) (s5 (s.cE b') (o.dst.getD 0) (vQ c (vO s cV)) c.cC.r1 c.a8.bH 0) bn,none⟩
  | false=>none
 | none=>none
def G3(aJ:dX)(s:aE)(o:Oper)(args:List Operand)(c:cO):Option iH:=
 A9 s o c (vP aJ s args) (kk (args.map (bj aJ s.aD))) args.length
def Lp(aJ:dX)(Psi:Nat->Option gw)(s:aE)(o:Oper)(t:Nat)(args:List Operand):Option iH:=
 match use (s.aD t) with
 | (cA,.jl k n dS)=>match Psi k with
  | some (.eE c)=>A9 s o c (vP aJ s args++(List.range n).map dS) (cA/\kk (args.map (bj aJ s.aD))) (args.length+n)
  | _=>none
 | _=>none
def aag(e:aa)(b:ca):Option (List (Nat×List e.aq)):=
 match b with
 | .ez=>some []
 | b=>AD e b
def Lq(aJ:dX)(T:Nat->aa)(s:aE)(o:Oper)(src dst:TypeId)(x:Operand):Option iH:=
 match s.aD cd with
 | .aS ..=>none
 | _=>if T dst=.cP (.int .u8)/\T src=.str then (match use (bj aJ s.aD x) with
  | (cA,.val .str b)=>match aag (.int .u8) (s.ab cG).body with
   | some m=>some ⟨Nat,0,cA,ah (b2 b.length) (mS λid=>id ∉ m.map (·.1)),λid=>(s.cq cG ⟨(s.ab cG).gen,.bU (.int .u8) ((id,df b)::m)⟩).set o.dst (.val (.cP (.int .u8)) (id,0,b.length)),none⟩
   | none=>none
  | _=>none) else none
def aah:Nat:=999999
def aai(c:cO)(sh:Nat->c.cC.aq->L c.a8.aq)(ids:List Nat)(n:Option Nat):cO:={ c with sh:=λA=>ah (∃ k∈ids,n=some k) (sh (n.getD 0) A) }
def Lr(aJ:dX)(Psi:Nat->Option gw)(s:aE)(o:Oper)(t:Nat)(args:List Operand):Option iH:=
 match s.aD t with
 | .val .eY n=>match Psi aah with
  | some (.Ll c sh ids)=>G3 aJ s o args (aai c sh ids n)
  | _=>none
 | _=>none
def Ls(aJ:dX)(s:aE)(o:Oper)(t:Nat)(args:List Operand):Option iH:=
 match s.aD t,s.aD cd with
 | .iw ev,.aS l aK ad n ae=>match (ki aK ((args.map (bj aJ s.aD)).map λv=>(use v).2)).run s.ab with
  | some (x,b')=>some ⟨Bool,false,kk (args.map (bj aJ s.aD)),ah (ev=l/\ae=false/\∃ T,ad (n++x::T)) (mS λ_=>True),λb=>aE.set ⟨λi=>if i=cd then .aS l aK ad (n++[x]) (!b) else s.aD i,(s.cE b').ab⟩ o.dst (.val .bool b),none⟩
  | none=>none
 | _,_=>none
def Lt(aJ:dX)(T:Nat->aa)(s:aE)(o:Oper)(ty:TypeId)(x:Operand):Option iH:=
 match T ty,o.dst with
 | .map k v,some d=>match use (bj aJ s.aD x) with
  | (cA,av)=>match (en (.map k v) av).run s.ab with
   | some (es,b')=>if b'.contains d then none else
    some ⟨Unit,(),cA,mpure (),λ_=>((s.cE b').cq d ⟨(s.ab d).gen+1,.cI k v none es⟩).set o.dst (.l9 d ((s.ab d).gen+1)),none⟩
   | none=>none
 | _,_=>none
def Lu(l:List af):L (Option Nat):=⟨True,λx=>match x with | none=>l=[] | some i=>i<l.length⟩
def aaj(i:Option Nat):Nat:=match i with | none=>0 | some _=>2
def qq(c:Option af)(b9:List af)(i:Option Nat):Option af:=match i with | none=>c | some i=>b9[i]?
def G4(b9:List af)(i:Option Nat):List af:=match i with | none=>b9 | some i=>b9.eraseIdx i
def Lv(aJ:dX)(s:aE)(o:Oper)(x:Operand)(str:Bool):Option iH:=
 match str,bj aJ s.aD x with
 | false,.l9 b g=>if (s.ab b).gen=g then (match (s.ab b).body with
  | .cI k v c b9=>some ⟨Option Nat,none,True,Lu b9,λi=>(s.cq b ⟨g,.cI k v (qq c b9 i) (G4 b9 i)⟩).set o.dst (.sN (Nat.succ (aaj i)) (h5 [.val .bool i.isSome])),none⟩
  | _=>none) else none
 | _,_=>none
def Lw(aJ:dX)(s:aE)(o:Oper)(x:Operand):Option iH:=
 match bj aJ s.aD x with
 | .l9 b g=>if (s.ab b).gen=g then (match (s.ab b).body with
  | .cI k v c _=>some ⟨Unit,(),True,ah (c.isSome=true) (mpure ()),λ_=>s.set o.dst (.sN 2 (h5 [.val k ((c.map (·.1)).getD k.dW),.val v ((c.map (·.2)).getD v.dW)])),none⟩
  | _=>none) else none
 | _=>none
def G5(aJ:dX)(T:Nat->aa)(s:aE)(o:Oper)(op:BinOp)(ty:TypeId)(x y:Operand):Option iH:=
 match T ty,bj aJ s.aD y with
 | .slice e,.dd=>match (en (.slice e) (use (bj aJ s.aD x)).2).run s.ab with
  | some (xs,_)=>match op with
   | .eql=>some ⟨Bool,false,(use (bj aJ s.aD x)).1,mS λb=>b=true->xs=[],λb=>s.set o.dst (.val .bool b),none⟩
   | .neq=>some ⟨Bool,false,(use (bj aJ s.aD x)).1,mS λb=>b=true->xs=[],λb=>s.set o.dst (.val .bool (!b)),none⟩
   | _=>none
  | none=>none
 | _,_=>none
def uB(aJ:dX)(T:Nat->aa)(bs:Nat->Option aQ)(Psi:Nat->Option gw)(s:aE)(o:Oper):Option iH:=
 match o.op with
 | .call c=>match c.callee with
  | .value f=>match f with
   | .func k=>match Psi k with
    | some (.eE gr)=>G3 aJ s o c.args.toList gr
    | some (.aab gr)=>Ln aJ s o c.args.toList gr
    | _=>match Rp bs Psi k with
     | some dL=>G0 aJ s o c.args.toList dL
     | none=>none
   | .tmp t=>match G1 aJ s o t c.args.toList with
    | some r=>some r
    | none=>match Lr aJ Psi s o t c.args.toList with
     | some r=>some r
     | none=>match Lp aJ Psi s o t c.args.toList with
      | some r=>some r
      | none=>Ls aJ s o t c.args.toList
   | _=>none
  | _=>none
 | .range ty x=>Lt aJ T s o ty x
 | .next x str=>Lv aJ s o x str
 | .entry x=>Lw aJ s o x
 | .binOp op ty x y _=>G5 aJ T s o op ty x y
 | .convert src dst x=>Lq aJ T s o src dst x
 | _=>none
def uC(g:Bool)(m:L af)(d:af):L af:=if g=true then m else mpure d
def yN(b:Bool)(p:Prop)(m:L bet):L bet:=match b with | true=>m | false=>ah p m
def Lx(o:Oper)(ht:aN)(l:List (Nat×b_)):Option (List (Nat×b_)×aN):=
 match l with
 | []=>some ([],ht)
 | p::ev=>match o.op with
  | .makeFunc ..=>some (p::ev,ht)
  | .buildSlice _ n _=>match ev,ht,p.2.body with
   | [],.own bk g',.bo e xs=>if (bk=p.1/\g'=p.2.gen)/\n≠0 then some ([(p.1,⟨p.2.gen,.ez⟩)],.val (.slice e) xs) else none
   | _,_,_=>none
  | _=>none
def aak(jG:List (Nat×b_))(ht:aN):aN:=
 match ht with
 | .own b _=>match jG.find? (λp=>p.1 == b) with
  | some (_,⟨_,.bo e xs⟩)=>.val (.slice e) xs
  | _=>ht
 | _=>ht
abbrev r2:=List (Nat×(Nat×Bool))
def yO(ops:Array Oper)(j d:Nat):Bool:=match ops[j]? with | some o=>(match o.dst with | some e=>e == d | none=>false) | none=>false
def ap3(e_:r2)(t:Nat)(k:Nat×Bool):Bool:=e_.any λp=>p.1 == t&&(p.2.1 == k.1&&p.2.2 == k.2)
def A_(ops:Array Oper)(e_:r2)(o:Oper):r2:=
 match o.dst with
 | none=>e_
 | some d=>match o.guard with
  | some k=>if yO ops k.1 d=true then e_.filter λp=>p.1 != d&&!yO ops p.2.1 d else (d,k)::e_.filter λp=>p.1 != d&&!yO ops p.2.1 d
  | none=>e_.filter λp=>p.1 != d&&!yO ops p.2.1 d
def A'(rho:Operand->aN)(e_:r2)(gk:Option (Nat×Bool))(x:Operand):Bool:=
 !(rho x).Dn||(match x,gk with | .tmp t,some k=>ap3 e_ t k | _,_=>false)
def Ly(ops:Array Oper)(e_:r2)(c x:Operand)(want:Bool):Bool:=
 match c,x with
 | .tmp c,.tmp t=>e_.any λp=>p.1 == t&&(yO ops p.2.1 c&&p.2.2 == want)
 | _,_=>false
def uD(rho:Operand->aN)(e_:r2)(gk:Option (Nat×Bool))(o:Oper):Bool:=o.op.operands.toList.all (A' rho e_ gk)
def G6(rho:Operand->aN)(ops:Array Oper)(e_:r2)(gk:Option (Nat×Bool))(o:Oper):Bool:=
 match o.op with
 | .pick c a b=>A' rho e_ gk c&&((A' rho e_ gk a||Ly ops e_ c a true)&&(A' rho e_ gk b||Ly ops e_ c b false))
 | _=>uD rho e_ gk o
def Rs(rho:Operand->aN)(e_:r2)(gk:Option (Nat×Bool))(o:Oper)(ht:aN):Bool:=
 !ht.Dn||(match o.op with | .move x=>A' rho e_ gk x | _=>false)
def j8:Operand->Option Nat
 | .tmp t=>some t
 | _=>none
def DC(o gX nL:Oper):Option (Oper×Nat×Nat):=
 match o.op with
 | .mapEntry ty m x=>match gX.op with
  | .extract e 1=>match nL.op with
   | .entryStore mW dz a1 y=>match o.dst,gX.dst,nL.dst with
    | some d1,some d2,none=>if j8 e=some d1/\j8 a1=some d2/\mW=ty/\(j8 dz).isSome=true/\j8 dz=j8 m/\(j8 y).isSome=true/\j8 m≠some d1/\j8 m≠some d2/\j8 y≠some d1/\j8 y≠some d2/\o.guard.isNone=true/\gX.guard.isNone=true/\nL.guard.isNone=true
     then some ({ nL with op:=.mapUpdate ty m x y },d1,d2) else none
    | _,_,_=>none
   | _=>none
  | _=>none
 | _=>none
def DD(o:Oper)(os:List Oper):Option (Oper×Nat×Nat):=
 match os with
 | gX::nL::_=>DC o gX nL
 | _=>none
def Lz{bet:Type}:Nat->Int->(Nat->L bet)->L bet
 | 0,_,_=>eb
 | 1,_,k=>k 0
 | n+2,v,k=>if v=((n+1:Nat):Int) then k (n+1) else Lz (n+1) v k
theorem aal{bet:Type}{O:bet->Prop}{k:Nat->L bet}{v:Int}:∀ {n:Nat},c8 (Lz n v k) O->0<=v->v<(n:Int)->c8 (k v.toNat) O
 | 0,h,_,_=>h.1.elim
 | 1,h,aV,E=>by
  have:v.toNat=0:=by omega
  rw[this];exact h
 | n+2,h,aV,E=>by
  unfold Lz at h;split at h
  ·grind
  ·exact aal h aV (by omega)
def oY{bet:Type}(aJ:dX)(T:Nat->aa)(bs:Nat->Option aQ)(Psi:Nat->Option gw)(ops:Array Oper):List Oper->r2->aE->(aE->L bet)->L bet
 | [],_,s,k=>k s
 | o::os,e_,s,k=>
  match DD o os with
  | some (lS,d1,d2)=>match os with
   | _::_::ap4=>match (iB aJ T bs (bj aJ s.aD) lS).run s.ab with
    | some res=>ah res.cA (ah res.c (oY aJ T bs Psi ops ap4 [] (((s.jI none res).set (some d1) .undef).set (some d2) .undef) k))
    | none=>eb
   | _=>eb
  | none=>
  match mi s.aD ops o.guard with
  | none=>eb
  | some none=>match (iB aJ T bs (bj aJ s.aD) o).run s.ab with
   | some res=>yN (G6 (bj aJ s.aD) ops e_ none o) res.cA (yN (vM (bj aJ s.aD) o) res.c (oY aJ T bs Psi ops os (A_ ops e_ o) (s.jI o.dst res) k))
   | none=>match uB aJ T bs Psi s o with
    | some cK=>yN (ux (bj aJ s.aD) o) cK.cA (ar cK.m λy=>oY aJ T bs Psi ops os [] (cK.ae y) k)
    | none=>eb
  | some (some g)=>match (iB aJ T bs (bj aJ s.aD) o).run s.ab with
   | some ⟨cA,c,ht,jG⟩=>match Lx o ht jG with
    | some (Ba,vR)=>yN (G6 (bj aJ s.aD) ops e_ o.guard o&&(vM (bj aJ s.aD) o&&Rs (bj aJ s.aD) e_ o.guard o vR)) (g=true->cA/\(c/\(use vR).1)) (oY aJ T bs Psi ops os (A_ ops e_ o) ((s.iC Ba).set o.dst (.kB g (use vR).2)) k)
    | none=>if g=true then ah cA (ah c (oY aJ T bs Psi ops os [] (s.jI o.dst ⟨cA,c,ht,jG⟩) k)) else oY aJ T bs Psi ops os [] (s.set o.dst (.kB false (aak jG (use ht).2))) k
   | none=>match uB aJ T bs Psi s o with
    | some cK=>match cK.GZ with
     | some gs=>yN (uD (bj aJ s.aD) e_ o.guard o) (g=true->cK.cA) (ar (uC g cK.m cK.d) λy=>oY aJ T bs Psi ops os (A_ ops e_ o) (gs g y) k)
     | none=>if g=true then ah cK.cA (ar cK.m λy=>oY aJ T bs Psi ops os [] (cK.ae y) k) else oY aJ T bs Psi ops os [] (s.set o.dst (.kB false (use ((cK.ae cK.d).aD (o.dst.getD 0))).2)) k
    | none=>eb
def yP{bet:Type}:List Prop->L bet->L bet
 | [],m=>m
 | p::l,m=>ah p (yP l m)
def DE(cl:List (List Nat)):Nat->Nat
 | 0=>0
 | n+1=>if (List.range n).all (λi=>(cl.getD n []).contains i)=true then DE cl n else n+1
def Rt(ik kq jO kJ oq:Oper):Bool:=
 match ik.op,kq.op,jO.op with
 | .lookup ty m x false,.binOp .add _ (.tmp t) (.const (.int k c)) _,.mapEntry mW dz eS=>match ik.dst,kq.dst,DC jO kJ oq with
  | some e',some hz,some (_,d1,d2)=>decide (t=e'/\mW=ty/\gQ k c/\j8 dz=j8 m/\j8 eS=j8 x/\e'≠hz/\e'≠d1/\e'≠d2/\hz≠d1/\hz≠d2/\d1≠d2/\
    (j8 m).isSome=true/\(j8 x).isSome=true/\j8 m≠some e'/\j8 m≠some hz/\j8 m≠some d1/\j8 m≠some d2/\j8 x≠some e'/\j8 x≠some hz/\j8 x≠some d1/\j8 x≠some d2/\ik.guard.isNone=true/\kq.guard.isNone=true)
  | _,_,_=>false
 | _,_,_=>false
def LA(ops:List Oper):Bool:=
 match ops.drop (ops.length - 5) with
 | [ik,kq,jO,kJ,oq]=>Rt ik kq jO kJ oq&&(Du ops&&((List.range 5).all λq=>(List.range (ops.length - 5)).all λi=>((jM ops).getD (ops.length - 5+q) []).contains i)&&
   ((jM ops).getD (ops.length - 5+1) []).contains (ops.length - 5)&&((jM ops).getD (ops.length - 5+3) []).contains (ops.length - 5+2)&&((List.range 4).all λq=>((jM ops).getD (ops.length - 5+4) []).contains (ops.length - 5+q))&&
   (lR jO).all (λi=>decide (i<ops.length - 5))&&(lR kJ).all (λi=>decide (i<ops.length - 5)||decide (i=ops.length - 5+2)))
 | _=>false
def r3(ops:List Oper):Nat:=if LA ops=true then ops.length - 5 else DE (jM ops) ops.length
def LB(ops:List Oper)(n:Nat):Bool:=
 Du ops&&(decide (n<ops.length)&&(List.range ops.length).all λj=>(decide (j<n)||(List.range n).all λi=>((jM ops).getD j []).contains i)&&(decide (j<=n)||((jM ops).getD j []).contains n))
def aam(cl:List (List Nat))(n:Nat)(l:List eU):Bool:=
 (List.range l.length).all λj=>(List.range j).all λi=>match l[i]?,l[j]? with
  | some a,some b=>(cl.getD (n+j) []).contains (n+i)||a.apart b
  | _,_=>false
def LC(aJ:dX)(T:Nat->aa)(bs:Nat->Option aQ)(ops:Array Oper):List Oper->aE->Nat
 | [],_=>0
 | o::os,s=>match vN aJ T bs ops s o with
  | none=>0
  | some r=>LC aJ T bs ops os (r.jY s)+1
def aan(aJ:dX)(T:Nat->aa)(bs:Nat->Option aQ)(Psi:Nat->Option gw)(ops:Array Oper)(n:Nat)(s:aE)(k:aE->L bet):L bet:=
 match xp aJ T bs ops (ops.toList.take n) s with
 | some (l,s1)=>match AZ (ops.toList.take n) l with
  | true=>match ops[n]? with
   | some o=>match mi s1.aD ops o.guard with
    | some none=>match uB aJ T bs Psi s1 o with
     | some cK=>yP (l.flatMap eU.cs) (yN (ux (bj aJ s1.aD) o) cK.cA (ar cK.m λy=>match xp aJ T bs ops (ops.toList.drop (n+1)) (cK.ae y) with
      | some (fR,s2)=>match aam (jM ops.toList) (n+1) fR with
       | true=>yP (fR.flatMap eU.cs) (k s2)
       | false=>eb
      | none=>eb))
     | none=>eb
    | _=>eb
   | none=>eb
  | false=>eb
 | none=>eb
def DF(aJ:dX)(T:Nat->aa)(bs:Nat->Option aQ)(Psi:Nat->Option gw)(ops:Array Oper)(s:aE)(k:aE->L bet):L bet:=
 match xp aJ T bs ops ops.toList s with
 | some (l,s')=>match AZ ops.toList l with
  | true=>yP (l.flatMap eU.cs) (k s')
  | false=>eb
 | none=>match xp aJ T bs ops (ops.toList.take (r3 ops.toList)) s with
  | some (l,s')=>match AZ (ops.toList.take (r3 ops.toList)) l&&Du ops.toList with
   | true=>yP (l.flatMap eU.cs) (oY aJ T bs Psi ops (ops.toList.drop (r3 ops.toList)) [] s' k)
   | false=>eb
  | none=>match LB ops.toList (LC aJ T bs ops ops.toList s) with
   | true=>aan aJ T bs Psi ops (LC aJ T bs ops ops.toList s) s k
   | false=>eb
def nM(ops:List Oper):List Oper:=
 match ops with
 | []=>[]
 | o::l=>o::l.map λp=>{ p with after:=p.after.push ⟨0,.phase⟩ }
def Ru(ops:Array Oper):Bool:=
 match ops.toList with
 | []=>false
 | o::l=>(match o.op with | .move _=>true | _=>false)&&(o.guard.isNone&&(o.after.isEmpty&&(Region.noSelect ops&&l.all λp=>(lR p).contains 0||o.apart ops p)))
inductive cZ where
 | fe
 | seq (a b:cZ)
 | join (sh:eD) (a b:cZ)
 | cond (a b:cZ)
 | block (a:cZ)
 | loop (sh:eD) (a:cZ)
 | scope (a:cZ)
 | range (sh rin ee:eD) (a b:cZ)
 | iP (a b:cZ)
 | split (i off n:Nat) (a:cZ)
 | num (i n:Nat) (a:cZ)
 | oW (i:Nat) (a:cZ)
 | LD (b:Nat) (a:cZ)
 | LF
def cZ.fL:cZ->Bool
 | .fe=>true
 | .seq a b=>a.fL&&b.fL
 | .join _ a b=>a.fL&&b.fL
 | .cond a b=>a.fL&&b.fL
 | .block a=>a.fL
 | .loop _ a=>a.fL
 | .scope a=>a.fL
 | .range ..=>false
 | .iP a b=>a.fL&&b.fL
 | .split _ _ _ a=>a.fL
 | .num _ _ a=>a.fL
 | .oW _ a=>a.fL
 | .LD _ a=>a.fL
 | .LF=>false
def cZ.rl:cZ->Bool
 | .iP ..=>true
 | .fe=>true
 | _=>false
inductive dU where
 | normal
 | exit (id:Nat)
 | ret
def dU.r4:dU->Exit
 | .normal=>.normal
 | .exit id=>.exit id
 | .ret=>.ret
def aao(k:dU->aE->L bet)(f:aE->L bet)(e:dU)(s:aE):L bet:=
 match e with
 | .normal=>f s
 | .exit id=>k (.exit id) s
 | .ret=>k .ret s
def Bb{A:Type}(k:dU->aE->L bet)(f:aE->L (aL A bet))(e:dU)(s:aE):L (aL A bet):=
 match e with
 | .normal=>f s
 | .exit id=>ar (k (.exit id) s) λr=>mpure (.aX r)
 | .ret=>ar (k .ret s) λr=>mpure (.aX r)
def aap(id:Nat)(k:dU->aE->L bet)(e:dU)(s:aE):L bet:=
 match e with
 | .normal=>k .normal s
 | .exit sZ=>if sZ=id then k .normal s else k (.exit sZ) s
 | .ret=>k .ret s
def aL.fQ{A:Type}(f:A->L bet)(ae:aL A bet):L bet:=
 match ae with
 | .az x=>f x
 | .aX r=>mpure r
def aaq(v:aN)(m n:L bet):L bet:=
 match v with
 | .val .bool t=>if t=true then m else n
 | .kB g (.val .bool t)=>ah (g=true) (if t=true then m else n)
 | _=>eb
def nN(s:aE)(i off:Nat):Option (Int×(Nat->aE)):=
 match s.aD i with
 | .eZ b _ o=>match (s.ab b).body with
  | .cells t f=>match f (o+off) with
   | .val (.int Bc) x=>some (x,λj=>⟨s.aD,λbk=>if bk=b then ⟨(s.ab b).gen,.cells t λq=>if q=o+off then .val (.int Bc) (j:Int) else f q⟩ else s.ab bk⟩)
   | _=>none
  | _=>none
 | _=>none
variable {s:aE}{i:Nat}{off:Nat}{f:Nat->aE}
theorem ap5{x:Int}(h:nN s i off=some (x,f))(aV:0<=x):f x.toNat=s:=by
 unfold nN at h;split at h
 ·rename_i b g o ax;split at h
  ·rename_i t kF U;split at h
   ·rename_i Bc eS an;simp  at h;obtain⟨rfl,rfl⟩:=h;have aF:(λq=>if q=o+off then aN.val (.int Bc) ((eS.toNat)) else kF q)=kF:=by
     grind
    have bB:(λbk=>if bk=b then (⟨(s.ab b).gen,.cells t kF⟩) else s.ab bk)=s.ab:=by
     funext q;split
     ·rename_i e;rw[e,<-U]
     ·rfl
    simp_all
   grind
  grind
 grind
def uE(s:aE)(i:Nat):Option (Int×(Nat->aE)):=
 match s.aD i with
 | .val (.int Bc) x=>some (x,λn=>⟨λj=>if j=i then .val (.int Bc) (n:Int) else s.aD j,s.ab⟩)
 | _=>none
theorem ap6{n:Nat}{x:Int}(h:uE s i=some (x,f))(aV:x=(n:Int)):f n=s:=by
 unfold uE at h;split at h
 ·rename_i Bc eS ax;obtain⟨rfl,rfl⟩:=h;have aF:(λj=>if j=i then aN.val (.int Bc) (n) else s.aD j)=s.aD:=by
   grind
  simp_all
 grind
def Rv(s:aE)(i:Nat):Option aE:=
 match s.aD i with
 | .q3 b g n off=>match (s.ab b).body,off with
  | .bo (.ae (.slice e)) xs,0=>if g=(s.ab b).gen then some ⟨λj=>if j=i then .ke b g n else s.aD j,λbk=>if bk=b then ⟨g,.ie (.ae (.slice e)) xs n (.val (.slice e) (xs.getD n []))⟩ else s.ab bk⟩ else none
  | _,_=>none
 | _=>none
def Rw(s:aE)(b:Nat):Option aE:=
 match (s.ab b).body with
 | .ie (.ae (.slice e)) xs n v=>match (en (.slice e) v).run s.ab with
  | some (y,b')=>if b'.contains b then none else some ((s.cE b').cq b ⟨(s.ab b).gen,.bo (.ae (.slice e)) (xs.set n y)⟩)
  | none=>none
 | _=>none
def kr{A af:Type}(body:A->af->L (dU×A)):List af->A->L (dU×A)
 | [],A=>mpure (.normal,A)
 | x::xs,A=>ar (body A x) λp=>match p.1 with
  | .normal=>kr body xs p.2
  | .exit id=>mpure (.exit id,p.2)
  | .ret=>mpure (.ret,p.2)
def G7(aK:aa)(x:aK.aq):List Tmp->Nat->(Nat->aN)->Nat->aN
 | [],_,f=>f
 | p::bw,i,f=>G7 aK x bw (i+1) (λj=>if j=p then kh aK x i else f j)
def Bd(s:aE)(aK:aa)(x:aK.aq)(bw:List Tmp):aE:=⟨λi=>if i=cd then s.aD cd else G7 aK x bw 0 s.aD i,s.ab⟩
def Be(rin ee:eD):cO:=⟨rin,ee,[],0,λ_=>eb⟩
def xr{bn:Type}(sh rin ee:eD)(aK:aa)(bw:List Tmp)(A:sh.aq)(x:aK.aq)(run:aE->L (bn×ee.aq)):L (bn×sh.aq):=
 match rin.DA (vQ (Be rin ee) (Bd (sh.ae A) aK x bw)) (Bd (sh.ae A) aK x bw) with
 | some (rho,b')=>match G2 (Be rin ee) (vQ (Be rin ee) (Bd (sh.ae A) aK x bw)) ((sh.ae A).cE b') (s5 ((sh.ae A).cE b') 0 (vQ (Be rin ee) (Bd (sh.ae A) aK x bw)) rin.r1 ee.bH 0) 0 0 with
  | true=>ar (run (rin.ae rho)) λp=>sh.pE (A8 ((sh.ae A).cE b') (Be rin ee) (vQ (Be rin ee) (Bd (sh.ae A) aK x bw)) (s5 ((sh.ae A).cE b') 0 (vQ (Be rin ee) (Bd (sh.ae A) aK x bw)) rin.r1 ee.bH 0) p.2) λkK=>mpure (p.1,kK)
  | false=>eb
 | none=>eb
def nO(sh ee:eD)(aK:aa)(bw:List Tmp)(b3:Nat):Bool:=
 (ee.b5.isEmpty&&(!ee.bH.any (λp=>p.2.l_)&&!sh.bH.any (λp=>p.2.l_)))&&!sh.b5.any (λp=>p.1 == cd)&&decide (aK≠.dc)&&decide (bw.length=jV aK)&&bw.all λp=>decide (p<b3)
def LG(f:aE->L bet)(e:dU)(s:aE):L bet:=
 match e with
 | .normal=>f s
 | .exit _=>eb
 | .ret=>eb
def yQ(n:L bet)(x:Nat->L bet)(r:L bet)(e:dU):L bet:=
 match e with
 | .normal=>n
 | .exit id=>x id
 | .ret=>r
def Rx(k:dU->aE->L bet)(e:dU)(s:aE):L bet:=yQ (k .normal s) (λid=>k (.exit id) s) (k .ret s) e
theorem aar(k:dU->aE->L bet)(e:dU)(s:aE):Rx k e s=k e s:=by cases e<;>rfl
def fY(aJ:dX)(T:Nat->aa)(bs:Nat->Option aQ)(Psi:Nat->Option gw):cZ->{bet:Type}->Code->aE->(dU->aE->L bet)->L bet
 | .seq a b,_,c,s,k=>match c with
  | .seq x y=>fY aJ T bs Psi a x s (aao k λs'=>fY aJ T bs Psi b y s' k)
  | _=>eb
 | .join sh a b,bet,c,s,k=>match c with
  | .seq x y=>ar (fY aJ T bs Psi a (bet:=aL sh.aq bet) x s (Bb k λs'=>sh.pE s' λA=>mpure (.az A))) (aL.fQ λA=>fY aJ T bs Psi b y (sh.ae A) k)
  | _=>eb
 | .cond a b,_,c,s,k=>match c with
  | .cond c x y=>aaq (bj aJ s.aD c) (fY aJ T bs Psi a x s k) (fY aJ T bs Psi b y s k)
  | _=>eb
 | .block a,_,c,s,k=>match c with
  | .block id c=>fY aJ T bs Psi a c s (aap id k)
  | _=>eb
 | .loop sh a,bet,c,s,k=>match c with
  | .loop c=>sh.pE s λA=>dI (λA=>fY aJ T bs Psi a (bet:=aL sh.aq bet) c (sh.ae A) (Bb k λs'=>sh.pE s' λkK=>mpure (.az kK))) A
  | _=>eb
 | .iP a b,_,c,s,k=>match c with
  | .loop x=>match b.rl with
   | true=>fY aJ T bs Psi a x s (aao k λs'=>fY aJ T bs Psi b (.loop x) s' k)
   | false=>eb
  | _=>eb
 | .scope a,_,c,s,k=>match c with
  | .scope c=>fY aJ T bs Psi a c s k
  | _=>eb
 | .num i n a,_,c,s,k=>match uE s i with
  | some (x,f)=>ah (x=(n:Int)) (fY aJ T bs Psi a c (f n) k)
  | none=>eb
 | .oW i a,_,c,s,k=>match Rv s i with
  | some s'=>fY aJ T bs Psi a c s' k
  | none=>eb
 | .LD b a,_,c,s,k=>match Rw s b with
  | some s'=>fY aJ T bs Psi a c s' k
  | none=>eb
 | .split i off n a,_,c,s,k=>match nN s i off with
  | some (x,f)=>ah (0<=x/\x<(n:Int)) (Lz n x λj=>fY aJ T bs Psi a c (f j) k)
  | none=>eb
 | .range sh rin ee a b,_,c,s,k=>match c with
  | .rangeFunc g bw assign body=>match bj aJ s.aD g with
   | .vp uF n gC=>match Psi uF with
    | some (.cI ic)=>match (ki ic.ts ((List.range n).map gC)).run s.ab with
     | some (x,b')=>match nO sh ee ic.aK bw.toList fD&&(a.fL&&b.fL) with
      | true=>sh.pE (s.cE b') λA=>ah (ic.pre x) (ar (kr (λA y=>xr sh rin ee ic.aK bw.toList A y λs1=>
       fY aJ T bs Psi a (bet:=dU×ee.aq) assign s1 (LG λs2=>fY aJ T bs Psi b body s2 λe fh=>ee.pE fh λbn=>mpure (e,bn))) (ic.seq x) A) λp=>Rx k p.1 (sh.ae p.2))
      | false=>eb
     | none=>eb
    | _=>eb
   | .val (.cI aK) S=>match nO sh ee aK bw.toList fD&&(a.fL&&b.fL) with
    | true=>sh.pE s λA=>ar (mS S) λad=>ar (kr (λA y=>xr sh rin ee aK bw.toList A y λs1=>
     fY aJ T bs Psi a (bet:=dU×ee.aq) assign s1 (LG λs2=>fY aJ T bs Psi b body s2 λe fh=>ee.pE fh λbn=>mpure (e,bn))) ad A) λp=>Rx k p.1 (sh.ae p.2)
    | false=>eb
   | _=>eb
  | _=>eb
 | .LF,_,c,s,k=>match c with
  | .region _ ops draw=>match draw&&Ru ops with
   | true=>DF aJ T (Lm bs Psi) Psi (nM ops.toList).toArray s (k .normal)
   | false=>eb
  | _=>eb
 | .fe,_,c,s,k=>match c with
  | .region _ ops draw=>match draw with
   | true=>DF aJ T (Lm bs Psi) Psi ops s (k .normal)
   | false=>oY aJ T bs Psi ops ops.toList [] s (k .normal)
  | .skip=>k .normal s
  | .label _=>k .normal s
  | .exit id=>k (.exit id) s
  | .ret=>k .ret s
  | _=>eb
def nP(b3:Nat):Code->Bool
 | .region _ ops _=>ops.toList.all λo=>m' o b3
 | .seq a b=>nP b3 a&&nP b3 b
 | .cond _ a b=>nP b3 a&&nP b3 b
 | .block _ a=>nP b3 a
 | .loop a=>nP b3 a
 | .scope a=>nP b3 a
 | .rangeFunc _ bw a b=>bw.toList.all (λp=>decide (p<b3))&&(nP b3 a&&nP b3 b)
 | .skip=>true
 | .label _=>true
 | .exit _=>true
 | .ret=>true
 | _=>false
def oZ(x y:ca):Prop:=(y.hr=true->x.hr=true)/\(y.gT=true->x.gT=true/\y.len=x.len/\y.gU=x.gU)/\(y.iX=true->x.iX=true)/\(y.q4=true->x.q4=true)/\∀ k,y.cg k=true->x.cg k=true
theorem oZ.refl(x:ca):oZ x x:=⟨id,λh=>⟨h,rfl,rfl⟩,id,id,λ_=>id⟩
theorem oZ.ez(x:ca):oZ x .ez:=⟨λh=>(by cases h),λh=>(by cases h),λh=>(by cases h),λh=>(by cases h),λ_ h=>(by cases h)⟩
def uG(f:Nat->Nat)(H H':Nat->b_):Prop:=∀ b,(H' b).gen=0/\oZ (H (f b)).body (H' b).body
section
variable {P:Program} {H H':Nat->b_} {kap:Nat->bL} {F F':Nat->Prop} {w:World} {f:Nat->Nat}
variable {b:Nat}{v:Value}
theorem aas(aB:uG f H H')(h:bM P H kap F w (.eZ (f b) (H (f b)).gen off) v):bM P H' (λb=>kap (f b)) F' w (.eZ b 0 off) v:=
 ⟨⟨aQF _,h.1.2⟩,λ_ hc=>h.2 rfl ((aB b).2.1 hc)⟩
def Ry(P:Program)(H H':Nat->b_)(kap:Nat->bL)(f:Nat->Nat)(F F':Nat->Prop)(w:World)(r:Option (R×List Nat))(l:List Nat)(av Bf:aN)(y:R):Prop:=
 ∃ m,r=some (y,m)/\(∀ b∈m,b∈l)/\(kV H kap F' l->∀ v,bM P H kap F w av v->bM P H' (λb=>kap (f b)) F' w Bf v)
variable {l:List Nat}
theorem Ry.iD{r:Option (R×List Nat)}{av Bf:aN}{y:R}(h:r=some (y,l))(k:∀ v,bM P H kap F w av v->bM P H' (λb=>kap (f b)) F' w Bf v):Ry P H H' kap f F F' w r l av Bf y:=
 ⟨l,h,λ_ U=>U,λ_=>k⟩
theorem lv{b:Bool}{r:Option af}{x:af}(h:xq b r=some x):b=true/\r=some x:=by
 cases b with
 | true=>exact⟨rfl,h⟩
 | false=>cases h
variable {t:aa}
theorem s7{av:aN}{r:Option (R×List Nat)}{z:t.aq×R}(h:A6 H t av r=some (z,l)):∃ fC m,(en t av).run H=some (z.1,fC)/\r=some (z.2,m)/\l=fC++m:=by
 grind [A6]
theorem Rz{av:aN}{r:Option (R×List Nat)}{z:t.aq×R}(h:Q3 t av r=some (z,l)):av=.eL t z.1/\r=some (z.2,l):=by
 unfold Q3 at h;grind
theorem RA{av:aN}{r:Option (R×List Nat)}{z:(z21')×R}(h:Q4 H b av r=some (z,l)) :
  r=some (z.2,l)/\(av=.sub b (H b).gen z.1.1 z.1.2\/(av=.own b (H b).gen/\(H b).body.gT=true/\z.1=(0,(H b).body.len))):=by
 unfold Q4 at h;grind
theorem LH{aK:aa}{av:aN}{r:Option (R×List Nat)}{z:(Nat×(List aK.aq->Prop)×List aK.aq×Bool)×R}(h:Q5 aK av r=some (z,l)) :
  r=some (z.2,l)/\av=.aS z.1.1 aK z.1.2.1 z.1.2.2.1 z.1.2.2.2:=by
 unfold Q5 at h;grind
theorem RB{av:aN}{r:Option (R×List Nat)}{z:Nat×R}(h:Q7 H b av r=some (z,l)):r=some (z.2,l)/\av=.ke b (H b).gen z.1:=by
 unfold Q7 at h;grind
theorem RC{av:aN}{r:Option (R×List Nat)}{z:Nat×R}(h:Q6 av r=some (z,l)):r=some (z.2,l)/\av=.iw z.1:=by
 unfold Q6 at h;grind
theorem aat{av:aN}(h:Ld H b off av=true):av=.eZ b (H b).gen off:=by
 unfold Ld at h;grind
theorem aau{av:aN}(h:Le H b av=true):av=.own b (H b).gen:=by
 unfold Le at h;grind
theorem ap7{av:aN}(h:Q8 H b av=true):av=.hq b (H b).gen:=by
 unfold Q8 at h;grind
theorem ap8{av:aN}(h:Q9 H b av=true):av=.l9 b (H b).gen:=by
 unfold Q9 at h;grind
theorem ap9(aB:uG f H H'){av:aN}(h:Q_ H (f b) av=true)(ag:bM P H kap F w av v):bM P H' (λb=>kap (f b)) F' w (.hS b 0) v:=by
 unfold Q_ at h;split at h
 ·simp  at h;obtain⟨rfl,rfl⟩:=h;exact⟨⟨aQF _,ag.1.2⟩,λ_ hc=>.inr (ag.2 rfl ((aB b).2.1 hc))⟩
 ·simp  at h;obtain⟨rfl,rfl⟩:=h;exact⟨⟨aQF _,ag.1.2⟩,λ_ hc=>ag.2 rfl ((aB b).2.1 hc)⟩
 ·have an:=((eh rfl).1 ag).2;rcases an with⟨e,_⟩ | ⟨p,y,bE,_,e,_⟩
  ·have e:=(aQC e).1;subst e;exact⟨⟨aQF _,rfl⟩,λ_ _=>.inl rfl⟩
  grind
 ·subst ag;exact⟨⟨aQF _,rfl⟩,λ_ _=>.inl rfl⟩
 grind
theorem ap_{av:aN}(h:Q' av=true):av=.dd:=by
 grind [Q']
theorem ap'(aB:uG f H H'){k:FuncId}{hK:z9'}{av:aN}(h:Ra H f k hK av=true)(ag:bM P H kap F w av v):bM P H' (λb=>kap (f b)) F' w (.jl k hK.length (yL dB hK)) v:=by
 unfold Ra at h;split at h
 ·simp only[amX,beq_iff_eq]at h;obtain⟨⟨rfl,rfl⟩,e⟩:=h;obtain⟨aI,E,M,al⟩:=ag;refine⟨aI,E,M,λi G=>?_⟩;have he:=List.all_eq_true.1 e i (by grind);have ag:=al i G;rw[show hK[i]?=some hK[i] by simp]at he;rw[aat he]at ag;have:yL dB hK i=.eZ hK[i].1 0 hK[i].2:=by simp_all[yL,h5,dB]
  grind [aas]
 grind
theorem aqa(aB:uG f H H'){dE:List Nat}{av:aN}(h:Rb H f dE av=true)(ag:bM P H kap F w av v):bM P H' (λb=>kap (f b)) F' w (.agg dE.length (yM dB dE)) v:=by
 unfold Rb at h;split at h
 ·simp only[amX,beq_iff_eq]at h;obtain⟨rfl,e⟩:=h;obtain⟨aI,E,M,al⟩:=ag;refine⟨aI,E,M,λi G=>?_⟩;have he:=List.all_eq_true.1 e i (by grind);obtain⟨ag,hc⟩:=al i G;refine⟨?_,hc⟩;rw[show dE[i]?=some dE[i] by simp]at he;rw[aau he]at ag;have:yM dB dE i=.own dE[i] 0:=by simp_all[yM,h5,dB]
  rw[this];refine⟨⟨aQF _,ag.1.2⟩,λ_ hc=>?_⟩;obtain⟨aO,aT,_⟩:=(aB dE[i]).2.2.1 hc;rw[aT];exact ag.2 rfl aO
 grind
theorem Bg(a6:∀ b,c1 P H kap F w b)(bq:∀ r,F r->F' r)(aB:uG f H H')(t:cf){av:aN}{r:Option (R×List Nat)}{z:t.cons R}(h:t.k0 H f av r=some (z,l)) :
  Ry P H H' kap f F F' w r l av (t.av dB z).1 (t.av dB z).2:=by
 cases t with
 | undef=>exact .iD h λ_ _=>by simp  [cf.av,bM]
 | val t=>
  obtain⟨fC,m,an,rfl,rfl⟩:=s7 h;exact⟨m,rfl,λb U=>aQY _ U,λai v ag=>oP a6 bq an ai.left ag⟩
 | eL t=>
  obtain⟨rfl,rfl⟩:=Rz h;exact .iD rfl λv ⟨p,bE,E,M,al⟩=>⟨p,bE,E,M.mono bq (dk.refl _ _),fM _ bq (dk.refl _ _) al⟩
 | eZ b off=>
  obtain⟨E,M⟩:=lv h;obtain rfl:=aat E;exact .iD M λv ag=>aas aB ag
 | own b=>
  obtain⟨E,M⟩:=lv h;obtain rfl:=aau E;refine .iD M λv ag=>⟨⟨aQF _,ag.1.2⟩,λ_ hc=>?_⟩
  obtain⟨aO,aT,_⟩:=(aB b).2.2.1 hc;simp  [dB];rw[aT];exact ag.2 rfl aO
 | sub b=>
  obtain⟨E,M⟩:=RA h;refine .iD E λv ag=>?_;rcases M with rfl | ⟨rfl,gi,al⟩
  ·refine⟨⟨aQF _,ag.1.2⟩,λ_ hc=>?_⟩;obtain⟨aO,aT,b7⟩:=(aB b).2.2.1 hc;simp  [dB]at aT b7 ⊢;rw[aT,b7];exact ag.2 rfl aO
  ·refine⟨⟨aQF _,ag.1.2⟩,λ_ hc=>?_⟩;obtain⟨aO,aT,b7⟩:=(aB b).2.2.1 hc;have:=ag.2 rfl aO;simp  [dB]at aT b7 ⊢;rw[aT,al];refine⟨⟨aQF _,amY _⟩,?_⟩;rw[this];unfold bL.slice;cases aA:(kap (f b)).fT with
   | true=>exact .inl ⟨aA,rfl⟩
   | false=>exact .inr ⟨aA,(kap (f b)).off,by simp,by simp,λ_=>by simp⟩
 | hq b=>
  obtain⟨E,M⟩:=lv h;obtain rfl:=ap7 E;exact .iD M λv ag=>⟨⟨aQF _,ag.1.2⟩,λ_ hc=>ag.2 rfl ((aB b).2.2.2.1 hc)⟩
 | l9 b=>
  obtain⟨E,M⟩:=lv h;obtain rfl:=ap8 E;exact .iD M λv ag=>⟨⟨aQF _,ag.1.2⟩,λ_ hc=>ag.2 rfl ((aB b).2.2.2.2.1 hc)⟩
 | dd=>
  obtain⟨E,M⟩:=lv h;obtain rfl:=ap_ E;exact .iD M λv ag=>ag
 | jl k hK=>
  obtain⟨E,M⟩:=lv h;exact .iD M λv ag=>ap' aB E ag
 | fG dE=>
  obtain⟨E,M⟩:=lv h;exact .iD M λv ag=>aqa aB E ag
 | hS b=>
  obtain⟨E,M⟩:=lv h;exact .iD M λv ag=>ap9 aB E ag
 | ke b=>
  obtain⟨E,rfl⟩:=RB h;refine .iD E λv ag=>⟨⟨aQF _,ag.1.2⟩,λ_ hc=>?_⟩
  obtain⟨aO,aT,b7⟩:=(aB b).2.2.1 hc;have:=ag.2 rfl aO;grind [dB]
 | aS aK=>
  obtain⟨E,rfl⟩:=LH h;exact .iD E λv ag=>ag
 | iw=>
  obtain⟨E,rfl⟩:=RC h;exact .iD E λv ag=>ag
theorem aqb(a6:∀ b,c1 P H kap F w b)(bq:∀ r,F r->F' r)(aB:uG f H H'):∀ (ts:List cf) {c:Nat->aN} {i:Nat} {R:Type} {r:Option (R×List Nat)} {z:s3 ts R} {l:List Nat},Dx H f ts c i r=some (z,l)->
  ∃ m,r=some ((r0 dB ts z).2,m)/\(∀ b∈m,b∈l)/\(kV H kap F' l->∀ j,j<ts.length->∀ v,bM P H kap F w (c (i+j)) v->bM P H' (λb=>kap (f b)) F' w ((r0 dB ts z).1.getD j .undef) v):=by
 intro ts;induction ts with
 | nil=>intro c i R r z l h;exact⟨l,h,λ_ U=>U,λ_ j aM=>by grind⟩
 | cons t ts aR=>
  intro c i R r z l h;obtain⟨m1,E,M,al⟩:=Bg     a6 bq aB t h;obtain⟨m2,aO,aT,gZ⟩:=aR E;refine⟨m2,aO,λb U=>M b (aT b U),λai j aM v ag=>?_⟩;cases j with
  | zero=>exact al ai v ag
  | succ j=>
   have:=gZ (λb U=>ai b (M b U)) j (by grind) v (by grind);grind [r0]
theorem aqc(a6:∀ b,c1 P H kap F w b)(bq:∀ r,F r->F' r)(aB:uG f H H'):∀ (ts:List (Nat×cf)) {c:Nat->aN} {R:Type} {r:Option (R×List Nat)} {z:rk ts R} {l:List Nat},Dz H f ts c r=some (z,l)->
  ∃ m,r=some ((eV dB ts z).2,m)/\(∀ b∈m,b∈l)/\(kV H kap F' l->∀ i v,bM P H kap F w (c i) v->bM P H' (λb=>kap (f b)) F' w (fw (eV dB ts z).1 i) v):=by
 intro ts;induction ts with
 | nil=>intro c R r z l h;exact⟨l,h,λ_ U=>U,λ_ _ _ _=>by grind [eV,fw,bM]⟩
 | cons p ts aR=>
  intro c R r z l h;obtain⟨m1,E,M,al⟩:=Bg     a6 bq aB p.2 h;obtain⟨m2,aO,aT,gZ⟩:=aR E;refine⟨m2,aO,λb U=>M b (aT b U),λai i v ag=>?_⟩;simp  [eV,fw];split
  ·grind
  ·exact gZ (λb U=>ai b (M b U)) i v ag
theorem LI(t:cf){av:aN}{r:Option (R×List Nat)}{z:t.cons R}(h:t.k0 H f av r=some (z,l)):∃ m,r=some ((t.av dB z).2,m)/\∀ b∈m,b∈l:=by
 cases t with
 | undef=>exact⟨l,h,λ_ h=>h⟩
 | val t=>obtain⟨_,m,_,M,al⟩:=s7 h;exact⟨m,M,λb U=>al ▸ aQY _ U⟩
 | eL t=>exact⟨l,(Rz h).2,λ_ h=>h⟩
 | sub b=>exact⟨l,(RA h).1,λ_ h=>h⟩
 | aS aK=>exact⟨l,(LH h).1,λ_ h=>h⟩
 | iw=>exact⟨l,(RC h).1,λ_ h=>h⟩
 | ke b=>exact⟨l,(RB h).1,λ_ h=>h⟩
 | hS b=>exact⟨l,(lv h).2,λ_ h=>h⟩
 | eZ b off=>exact⟨l,(lv h).2,λ_ h=>h⟩
 | own b=>exact⟨l,(lv h).2,λ_ h=>h⟩
 | hq b=>exact⟨l,(lv h).2,λ_ h=>h⟩
 | l9 b=>exact⟨l,(lv h).2,λ_ h=>h⟩
 | dd=>exact⟨l,(lv h).2,λ_ h=>h⟩
 | jl k hK=>exact⟨l,(lv h).2,λ_ h=>h⟩
 | fG dE=>exact⟨l,(lv h).2,λ_ h=>h⟩
theorem aqd:∀ (ts:List cf) {c:Nat->aN} {i:Nat} {R:Type} {r:Option (R×List Nat)} {z:s3 ts R} {l:List Nat},Dx H f ts c i r=some (z,l)->∃ m,r=some ((r0 dB ts z).2,m)/\∀ b∈m,b∈l:=by
 intro ts;induction ts with
 | nil=>intro c i R r z l h;exact⟨l,h,λ_ h=>h⟩
 | cons t ts aR=>
  intro c i R r z l h;obtain⟨m,E,M⟩:=LI t h;obtain⟨dz,al,a7⟩:=aR E;exact⟨dz,al,λb U=>M b (a7 b U)⟩
theorem aqe:∀ (ts:List (Nat×cf)) {c:Nat->aN} {R:Type} {r:Option (R×List Nat)} {z:rk ts R} {l:List Nat},Dz H f ts c r=some (z,l)->∃ m,r=some ((eV dB ts z).2,m)/\∀ b∈m,b∈l:=by
 intro ts;induction ts with
 | nil=>intro c R r z l h;exact⟨l,h,λ_ h=>h⟩
 | cons p ts aR=>
  intro c R r z l h;obtain⟨m,E,M⟩:=LI p.2 h;obtain⟨dz,al,a7⟩:=aR E;exact⟨dz,al,λb U=>M b (a7 b U)⟩
theorem G8(t:cf){av:aN}{r:Option (R×List Nat)}{z:t.cons R}(h:t.k0 H f av r=some (z,l))(D:∀ y m,r=some (y,m)->iQ H m):iQ H l:=by
 cases t with
 | undef=>exact D _ _ h
 | val t=>obtain⟨_,m,E,M,rfl⟩:=s7 h;exact (pv E).append (D _ _ M)
 | eL t=>exact D _ _ (Rz h).2
 | sub b=>exact D _ _ (RA h).1
 | aS aK=>exact D _ _ (LH h).1
 | iw=>exact D _ _ (RC h).1
 | ke b=>exact D _ _ (RB h).1
 | hS b=>exact D _ _ (lv h).2
 | eZ b off=>exact D _ _ (lv h).2
 | own b=>exact D _ _ (lv h).2
 | hq b=>exact D _ _ (lv h).2
 | l9 b=>exact D _ _ (lv h).2
 | dd=>exact D _ _ (lv h).2
 | jl k hK=>exact D _ _ (lv h).2
 | fG dE=>exact D _ _ (lv h).2
theorem aqf:∀ (ts:List cf) {c:Nat->aN} {i:Nat} {R:Type} {r:Option (R×List Nat)} {z:s3 ts R} {l:List Nat},Dx H f ts c i r=some (z,l)->(∀ y m,r=some (y,m)->iQ H m)->iQ H l:=by
 intro ts;induction ts with
 | nil=>intro c i R r z l h D;exact D _ _ h
 | cons t ts aR=>intro c i R r z l h D;exact G8 t h λy m hm=>aR hm D
theorem aqg:∀ (ts:List (Nat×cf)) {c:Nat->aN} {R:Type} {r:Option (R×List Nat)} {z:rk ts R} {l:List Nat},Dz H f ts c r=some (z,l)->(∀ y m,r=some (y,m)->iQ H m)->iQ H l:=by
 intro ts;induction ts with
 | nil=>intro c R r z l h D;exact D _ _ h
 | cons p ts aR=>intro c R r z l h D;exact G8 p.2 h λy m hm=>aR hm D
variable {ks:ca}
theorem RD{ts:List cf}{r:Option (R×List Nat)}{z:s3 ts R}(h:Rc H f t ts ks r=some (z,l)):∃ c,ks=.cells t c/\t.size=ts.length/\Dx H f ts c 0 r=some (z,l):=by
 unfold Rc at h;grind
variable {e:aa}
theorem RE{r:Option (R×List Nat)}{z:List e.aq×R}(h:Re e ks r=some (z,l)):r=some (z.2,l)/\ks=.bo e z.1:=by
 unfold Re at h;grind
theorem RF{r:Option (R×List Nat)}{z:List (Nat×List e.aq)×R}(h:Ri e ks r=some (z,l)):r=some (z.2,l)/\(ks=.bU e z.1\/(ks=.ez/\z.1=[])):=by
 unfold Ri at h;grind
theorem oZ.bU(x:ca)(e:aa)(m:List (Nat×List e.aq)):oZ x (.bU e m):=⟨λh=>(by cases h),λh=>(by cases h),λh=>(by cases h),λh=>(by cases h),λ_ h=>(by cases h)⟩
theorem RG{t:cf}{r:Option (R×List Nat)}{z:(List e.aq×Nat)×t.cons R}(h:Rh H f e t ks r=some (z,l)):∃ v,ks=.ie e z.1.1 z.1.2 v/\t.k0 H f v r=some (z.2,l):=by
 unfold Rh at h;grind
variable {v:aa}{k:aa}
theorem RH{r:Option (R×List Nat)}{z:List (k.aq×v.aq)×R}(h:Rf k v ks r=some (z,l)):r=some (z.2,l)/\ks=.mp k v z.1:=by
 unfold Rf at h;grind
theorem RI{r:Option (R×List Nat)}{z:(Option (k.aq×v.aq)×List (k.aq×v.aq))×R}(h:Rg k v ks r=some (z,l)):r=some (z.2,l)/\ks=.cI k v z.1.1 z.1.2:=by
 unfold Rg at h;grind
theorem RJ{r:Option (R×List Nat)}{z:t.aq×R}(h:Rj H t ks r=some (z,l)):∃ c,ks=.cells t c/\A6 H t (.agg t.size c) r=some (z,l):=by
 unfold Rj at h;grind
theorem RL{r:Option (R×List Nat)}{z:t.aq×R}(h:Rk H t b r=some (z,l)):∃ fC m,(en (.bP t) (.eZ b (H b).gen 0)).run H=some (some z.1,fC)/\r=some (z.2,m)/\l=fC++m:=by
 unfold Rk at h;split at h<;>grind
theorem aav{xs:List e.aq}(h:(en (.slice e) (.own b (H b).gen)).run H=some (xs,l)):(H b).body=.bo e xs\/(H b).body=.jD e xs:=by
 simp  [en,l',aa.gb,eK]at h;split at h
 ·simp  at h;grind [mU]
 ·simp  at h;grind [mU]
 grind
theorem aqh{xs:List (k.aq×v.aq)}(h:(en (.map k v) (.hq b (H b).gen)).run H=some (xs,l)):(H b).body=.mp k v xs\/(H b).body=.lh k v xs:=by
 simp  [en,l',aa.gb,eK]at h;split at h
 ·simp  at h;grind [mU]
 ·simp  at h;grind [mU]
 grind
theorem aqi{x:Option t.aq}(h:(en (.bP t) (.eZ b (H b).gen 0)).run H=some (x,l)):(H b).body.hr=true:=by
 simp  [en,l',w7]at h;split at h
 ·rename_i U;rw[U];rfl
 ·rename_i U;rw[U];rfl
 ·cases h
theorem cc.RM(t:cc){r:Option (R×List Nat)}{z:t.cons R}(h:t.k0 H f b r=some (z,l)) :
  (∃ m,r=some ((t.body dB z).2,m)/\∀ c∈m,c∈l)/\oZ (H b).body (t.body dB z).1/\∀ k,(t.body dB z).1.cg k=true->t.GX=true:=by
 cases t with
 | cells t ts=>
  obtain⟨c,e,ax,h⟩:=RD h;refine⟨aqd ts h,?_,λ_ _=>rfl⟩;rw[e];exact⟨λ_=>rfl,λh=>(by cases h),λh=>(by cases h),λh=>(by cases h),λ_ _=>rfl⟩
 | bo e=>
  obtain⟨E,M⟩:=RE h;refine⟨⟨l,E,λ_ h=>h⟩,?_,λ_ _=>rfl⟩;rw[M];exact oZ.refl _
 | jD e=>
  obtain⟨fC,m,E,M,rfl⟩:=s7 h;refine⟨⟨m,M,λ_ h=>aQY _ h⟩,?_,λ_ h=>(by cases h)⟩;rcases aav E with e | e<;>rw[e]
  ·exact⟨λh=>(by cases h),λ_=>⟨rfl,rfl,rfl⟩,λh=>(by cases h),λh=>(by cases h),λ_ h=>(by cases h)⟩
  ·exact oZ.refl _
 | mp k v=>
  obtain⟨E,M⟩:=RH h;refine⟨⟨l,E,λ_ h=>h⟩,?_,λ_ _=>rfl⟩;rw[M];exact oZ.refl _
 | lh k v=>
  obtain⟨fC,m,E,M,rfl⟩:=s7 h;refine⟨⟨m,M,λ_ h=>aQY _ h⟩,?_,λ_ h=>(by cases h)⟩;rcases aqh E with e | e<;>rw[e]
  ·exact⟨λh=>(by cases h),λh=>(by cases h),λ_=>rfl,λh=>(by cases h),λ_ h=>(by rfl)⟩
  ·exact oZ.refl _
 | gE t=>
  obtain⟨c,e,h⟩:=RJ h;obtain⟨fC,m,E,M,rfl⟩:=s7 h;refine⟨⟨m,M,λ_ h=>aQY _ h⟩,?_,λ_ _=>rfl⟩;rw[e];exact⟨λ_=>rfl,λh=>(by cases h),λh=>(by cases h),λh=>(by cases h),λ_ _=>rfl⟩
 | ix t=>
  obtain⟨fC,m,E,M,rfl⟩:=RL h;refine⟨⟨m,M,λ_ h=>aQY _ h⟩,?_,λ_ h=>(by cases h)⟩;exact⟨λ_=>aqi E,λh=>(by cases h),λh=>(by cases h),λh=>(by cases h),λ_ h=>(by cases h)⟩
 | cI k v=>
  obtain⟨E,M⟩:=RI h;refine⟨⟨l,E,λ_ h=>h⟩,?_,λ_ _=>rfl⟩;rw[M];exact oZ.refl _
 | bU e=>
  obtain⟨E,M⟩:=RF h;exact⟨⟨l,E,λ_ h=>h⟩,oZ.bU _ _ _,λ_ h=>(by cases h)⟩
 | ie e t=>
  obtain⟨v,aF,h⟩:=RG h;refine⟨LI t h,?_,λ_ _=>rfl⟩;rw[aF];exact⟨λh=>(by cases h),λ_=>⟨rfl,rfl,rfl⟩,λh=>(by cases h),λh=>(by cases h),λ_ h=>h⟩
theorem cc.G8(t:cc){b:Nat}{R:Type}{r:Option (R×List Nat)}{z:t.cons R}{l:List Nat}(h:t.k0 H f b r=some (z,l))(D:∀ y m,r=some (y,m)->iQ H m):iQ H l:=by
 cases t with
 | cells t ts=>obtain⟨c,e,ax,h⟩:=RD h;grind [aqf]
 | bo e=>exact D _ _ (RE h).1
 | jD e=>obtain⟨fC,m,E,M,rfl⟩:=s7 h;exact (pv E).append (D _ _ M)
 | mp k v=>exact D _ _ (RH h).1
 | lh k v=>obtain⟨fC,m,E,M,rfl⟩:=s7 h;exact (pv E).append (D _ _ M)
 | gE t=>obtain⟨c,e,h⟩:=RJ h;obtain⟨fC,m,E,M,rfl⟩:=s7 h;exact (pv E).append (D _ _ M)
 | ix t=>obtain⟨fC,m,E,M,rfl⟩:=RL h;exact (pv E).append (D _ _ M)
 | cI k v=>exact D _ _ (RI h).1
 | ie e t=>obtain⟨v,_,h⟩:=RG h;grind [Go.Fer.G8]
 | bU e=>exact D _ _ (RF h).1
theorem cc.aqj(a6:∀ b,c1 P H kap F w b)(bq:∀ r,F r->F' r)(aB:uG f H H')(t:cc){r:Option (R×List Nat)}{z:t.cons R}(h:t.k0 H f b r=some (z,l))(ai:kV H kap F' l) :
  mA P H' (λb=>kap (f b)) F' w (kap b) (t.body dB z).1:=by
 have U:=a6 b;unfold c1 at U;cases t with
 | cells t ts=>
  obtain⟨c,e,ax,h⟩:=RD h;rw[e]at U;obtain⟨cs,T,aO,aT,b7⟩:=U;obtain⟨m,_,_,gZ⟩:=aqb   a6 bq aB ts h;refine⟨cs,T,aO,aT,λi G=>⟨?_,(b7 i G).2⟩⟩;have:=gZ ai i (by omega) _ (by rw[aRt];exact (b7 i G).1);exact this
 | bo e=>
  rw[(RE h).2]at U;refine⟨U.1,λaA=>?_⟩;obtain⟨cs,T,E,M,al,a7,bR⟩:=U.2 aA;exact⟨cs,T,E,M,al,a7,bR.mono bq (dk.refl _ _)⟩
 | jD e=>
  obtain⟨fC,m,E,M,rfl⟩:=s7 h;have yC:=aav E;have Bh:=oP   a6 bq E ai.left ⟨⟨amY _,by unfold bL.slice;split<;>rfl⟩,λ_ _=>rfl⟩;have:=((eh rfl).1 Bh).2;rcases yC with a1 | a1<;>(rw[a1]at this;exact this)
 | mp k v=>
  rw[(RH h).2]at U;obtain⟨ms,clk,E,M⟩:=U;exact⟨ms,clk,E,M.mono bq (dk.refl _ _)⟩
 | lh k v=>
  obtain⟨fC,m,E,M,rfl⟩:=s7 h;have Bh:=oP   a6 bq E ai.left ⟨⟨amY _,rfl⟩,λ_ _=>rfl⟩;exact ((eh rfl).1 Bh).2
 | gE t=>
  obtain⟨c,e,h⟩:=RJ h;rw[e]at U;obtain⟨cs,T,aO,aT,b7⟩:=U;obtain⟨fC,m,an,_,rfl⟩:=s7 h;have ag:bM P H kap F w (.agg t.size c) (.agg cs):=⟨cs.toList,by simp,by grind,λj aM=>by
   simp_all⟩
  have Bh:=oP   a6 bq an ai.left ag;have kg:=C4   (H:=H') (kap:=λb=>kap (f b)) t Bh.2;refine⟨cs,T,aO,aT,λi G=>⟨?_,(b7 i G).2⟩⟩;have:=(kg.oa i (by rw[kg.len];grind [Value.cells])).1;simp_all[Value.cells]
 | ix t=>
  obtain⟨fC,m,E,M,rfl⟩:=RL h;have Bh:=oP   a6 bq E ai.left ⟨⟨amY _,rfl⟩,λ_ _=>rfl⟩;rcases ((eh rfl).1 Bh).2 with⟨_,e⟩ | ⟨p,y,bE,aF,bB,al,a7⟩
  ·grind
  ·simp  at aF;subst aF;cases bB;exact⟨bE,al,a7⟩
 | cI k v=>
  rw[(RI h).2]at U;exact Aq.mono U bq (dk.refl _ _) rfl
 | bU e=>trivial
 | ie e t=>
  obtain⟨v,aF,h⟩:=RG h;rw[aF]at U;obtain⟨aV,cs,T,E,M,al,a7,bR,er,jj,ld⟩:=U;obtain⟨m,_,_,gZ⟩:=Bg     a6 bq aB t h;refine⟨aV,cs,T,E,M,al,a7,bR,λj aM w5=>?_,gZ ai _ jj,ld⟩;obtain⟨bE,d1,d2⟩:=er j aM w5;exact⟨bE,d1,fM e bq (dk.refl _ _) d2⟩
theorem aqk:∀ (l:List (Nat×cc)) {x:pD l} {m:List Nat},Dy H f l=some (x,m)->∀ b,eP (ha dB l x) b=⟨0,.ez⟩\/
  ∃ ks,eP (ha dB l x) b=⟨0,ks⟩/\oZ (H (f b)).body ks/\∃ t,(b,t)∈l/\∀ k,ks.cg k=true->t.GX=true:=by
 intro l;induction l with
 | nil=>intro x m _ b;exact .inl rfl
 | cons q l aR=>
  intro x m h b;obtain⟨c6,cM⟩:=q;obtain⟨⟨dz,E,M⟩,al,a7⟩:=cc.RM cM h;grind [ha,eP]
theorem aql:∀ (l:List (Nat×cc)) {x:pD l} {m:List Nat},Dy H f l=some (x,m)->∀ b e p,(eP (ha dB l x) b).body=.bU e p->(H (f b)).body=.bU e p\/p=[]:=by
 intro l;induction l with
 | nil=>intro x m _ b e p h;cases h
 | cons q l aR=>
  intro x m h b e p U;obtain⟨c6,cM⟩:=q;obtain⟨⟨dz,E,M⟩,al,a7⟩:=cc.RM cM h;by_cases k:b=c6
  ·subst k;simp  [ha,eP]at U;cases cM with
   | bU a1=>
    obtain⟨_,er⟩:=RF h;have U:ca.bU a1 x.1=.bU e p:=U;grind
   | _=>cases U
  grind [ha,eP]
theorem aqm:∀ (l:List (Nat×cc)) {x:pD l} {m:List Nat},Dy H f l=some (x,m)->iQ H m:=by
 intro l;induction l with
 | nil=>intro x m h;cases h;exact .nil H
 | cons q l aR=>intro x m h;exact cc.G8 q.2 h λy m hm=>aR hm
theorem aqn(a6:∀ b,c1 P H kap F w b)(bq:∀ r,F r->F' r)(aB:uG f H H'):∀ (l:List (Nat×cc)) {x:pD l} {m:List Nat},Dy H f l=some (x,m)->kV H kap F' m->∀ b,mA P H' (λb=>kap (f b)) F' w (kap (f b)) (eP (ha dB l x) b).body:=by
 intro l;induction l with
 | nil=>intro x m _ _ b;trivial
 | cons q l aR=>
  intro x m h hm b;obtain⟨c6,cM⟩:=q;obtain⟨⟨dz,E,M⟩,_⟩:=cc.RM cM h;by_cases e:b=c6
  ·subst e;simp  [ha,eP];exact cc.aqj a6 bq aB cM h hm
  ·have:=aR E (λc hc=>hm c (M c hc)) b;grind [ha,eP]
theorem aqo:∀ (ts:List (Nat×cf)) {c:Nat->aN} {R:Type} {r:Option (R×List Nat)} {z:rk ts R} {l:List Nat},Dz H f ts c r=some (z,l)->∀ {i ev aK ad n ae},fw (eV dB ts z).1 i=.aS ev aK ad n ae->c i=.aS ev aK ad n ae:=by
 intro ts;induction ts with
 | nil=>intro c R r z l _ i ev aK ad n ae e;cases e
 | cons p ts aR=>
  intro c R r z l h i ev aK ad n ae e;obtain⟨fU,t⟩:=p;obtain⟨m,E,_⟩:=LI t h;simp  [eV,fw]at e;split at e
  ·rename_i G9;subst G9;cases t with
   | aS nb=>
    obtain⟨_,al⟩:=LH h;rw[al];exact e
   | _=>cases e
  grind
end
structure LJ(C:cJ)(s:aE)(a:Act)(w:World)(kap:Nat->bL)(f:Nat->Nat)(F':Nat->Prop)(sh:eD)(A:sh.aq)(b':List Nat):Prop where
 b5:∀ i,bM C.P (sh.ae A).ab (λb=>kap (f b)) F' w ((sh.ae A).aD i) (a.tmps.getD i Go.undef)
 bH:∀ b,c1 C.P (sh.ae A).ab (λb=>kap (f b)) F' w b
 cg:∀ b,((sh.ae A).ab b).body.cg (kap (f b))=true->f b ∉ b'/\(s.ab (f b)).body.cg (kap (f b))=true/\b∈sh.r1
 DG:uG f s.ab (sh.ae A).ab
 aS:∀ l aK ad n ae,(sh.ae A).aD cd=.aS l aK ad n ae->s.aD cd=.aS l aK ad n ae
 bU:∀ b e m,((sh.ae A).ab b).body=.bU e m->(s.ab (f b)).body=.bU e m\/m=[]
variable {f:Nat->Nat}{a:Act}{w:World}{kap:Nat->bL}{F:Nat->Prop}
theorem eD.aaw{C:cJ}{sh:eD}{A:sh.aq}{b':List Nat}(h:sh.DA f s=some (A,b'))(D:bx C s a w kap F) :
  ∃ F',(∀ r,F r->F' r)/\bx C (s.cE b') a w kap F'/\LJ C s a w kap f F' sh A b':=by
 unfold eD.DA at h;split at h
 ·rename_i kK aMA ur;split at h
  ·cases h;obtain⟨m,E,hm⟩:=aqe sh.b5 ur;have kY:=aqg sh.b5 ur λy m hm=>aqm sh.bH hm;obtain⟨F',f1,bm,f2⟩:=bx.mX kY D;have aqp:=aqk sh.bH E;have xt:uG f s.ab (sh.ae A).ab:=by
    intro b;show (eP (ha dB sh.bH (eV dB sh.b5 A).2) b).gen=0/\oZ (s.ab (f b)).body (eP (ha dB sh.bH (eV dB sh.b5 A).2) b).body;grind [oZ.ez]
   obtain⟨m2,_,_,aqq⟩:=aqc     D.bH f1 xt sh.b5 ur;refine⟨F',f1,bm,{ b5:=λi=>aqq f2 i _ (D.b5 i),bH:=λb=>?_,cg:=λb U=>?_,DG:=xt,aS:=λl aK ad n ae e=>aqo sh.b5 ur e,bU:=aql sh.bH E }⟩
   ·exact aqn D.bH f1 xt sh.bH E (λc hc=>f2 c (hm c hc)) b
   ·have aj:=(xt b).2.2.2.2.2 _ U;rcases aqp b with e | ⟨ks,e,_,t,aH,aMB⟩
    ·have e:(sh.ae A).ab b=_:=e;rw[e]at U;cases U
    ·have e:(sh.ae A).ab b=_:=e;have be:b∈sh.r1:=List.mem_filterMap.2 ⟨(b,t),aH,by grind⟩;grind
  grind
 grind
theorem LJ.xu{C:cJ}{F':Nat->Prop}{sh:eD}{A:sh.aq}{b':List Nat}(h:LJ C s a w kap f F' sh A b'){b:Nat}(U:((sh.ae A).ab b).body.cg (kap (f b))=true) :
  ((s.cE b').ab (f b)).body.cg (kap (f b))=true:=by
 obtain⟨E,M,_⟩:=h.cg b U;grind [aE.cE]
theorem RN{C:cJ}(D:bx C s a w kap F){b:Nat}{e:aa} :
  bx C (s.cq b ⟨(s.ab b).gen+1,.bo e []⟩) a w (λi=>if i=b then ⟨0,0,0,true⟩ else kap i) F:=
 D.Gz (k:=⟨0,0,0,true⟩) (aRe _) (.inl rfl) (amY _) (λ_ _=>rfl) (λh=>by grind) (dN.refl _) λ_ _=>⟨λ_=>rfl,λh=>by grind⟩
theorem aqr{C:cJ}(D:bx C s a w kap F){b bk g':Nat}(ax:s.aD i=.own bk g'):∃ bV,bx C (Rm s i b bk g') a w bV F:=by
 unfold Rm;split
 ·rename_i e xs ay cm;obtain⟨eM,rfl⟩:=aQR ay;generalize pw:(λj=>if j=b then (⟨(s.ab b).gen+1,.bo e xs⟩) else if j=bk then ⟨(s.ab bk).gen+1,.ez⟩ else s.ab j)=H';generalize kL:(λj=>if j=b then kap bk else kap j)=bV;have E:H' b=⟨(s.ab b).gen+1,.bo e xs⟩:=by grind
  have M:H' bk=⟨(s.ab bk).gen+1,.ez⟩:=by grind
  have aO:bV b=kap bk:=by grind
  have b7:∀ j,j≠b->bV j=kap j:=λj k=>by grind
  have ai:fN s.ab kap H' bV:=by
   intro j;by_cases aF:j=b<;>grind
  have eJ:∀ j,(H' j).body.cg (bV j)=true->(j=b/\(s.ab bk).body.cg (kap bk)=true)\/(j≠b/\j≠bk/\(s.ab j).body.cg (kap j)=true):=λj aM=>by
   by_cases aF:j=b
   ·grind
   ·by_cases bB:j=bk
    ·subst bB;rw[M]at aM;cases aM
    grind
  have h:=D.move         ai (λ_ h=>h) (λ_ h=>.inl h) (amY _) (λ_ _ _=>rfl) (dN.refl w)
   (λ_ j=>by
    by_cases aF:j=b
    ·subst aF;have a6:=D.bH bk;unfold c1 at a6 ⊢;rw[cm]at a6;rw[E,aO];exact a6
    ·by_cases bB:j=bk
     ·subst bB;unfold c1;rw[M];trivial
     ·exact c1.lj (D.bH j) ai (λ_ h=>h) (dk.refl _ _) (by grind) (b7 j aF) λ_=>rfl)
   (λj aM=>by
    rcases eJ j aM with⟨rfl,h⟩ | ⟨aF,_,h⟩
    ·have:=D.own bk h;grind
    ·have:=D.own j h;grind)
   (λj mZ aM gV e=>by
    rcases eJ j aM with⟨rfl,h⟩ | ⟨aF,bB,h⟩<;>rcases eJ mZ gV with⟨rfl,e3⟩ | ⟨aax,aqs,e3⟩
    ·rfl
    ·rw[aO,b7 mZ aax]at e;exact absurd (D.inj bk mZ h e3 e).symm aqs
    ·rw[aO,b7 j aF]at e;exact absurd (D.inj j bk h e3 e) bB
    ·rw[b7 j aF,b7 mZ aax]at e;exact D.inj j mZ h e3 e)
   D.du
   (λj _ aM=>by
    by_cases aF:j=b
    ·subst aF;rw[E]at aM;rcases aM with aM | aM<;>cases aM
    ·by_cases bB:j=bk
     ·subst bB;rw[M]at aM;rcases aM with aM | aM<;>cases aM
     grind)
   (λa1 m hm=>by
    grind)
  refine⟨bV,{ h with b5:=λj=>?_,dY:=h.dY,dm:=h.dm,bH:=h.bH,e8:=λl aK ad n ae a1=>?_,bU:=λa1 m hm=>⟨(h.bU a1 m hm).1,λid xs an=>⟨λl aK ad n ae aH=>?_,((h.bU a1 m hm).2 id xs an).2⟩⟩ }⟩
  ·show bM C.P _ _ F w (if j=i then .own b ((s.ab b).gen+1) else s.aD j) _;split
   ·rename_i e;subst e;have ag:=D.b5 j;rw[ax]at ag;have jU:=ag.2 rfl (by rw[cm];rfl);exact⟨⟨by grind,ag.1.2⟩,λ_ _=>by grind⟩
   ·exact h.b5 j
  ·have a1:(if cd=i then .own b ((s.ab b).gen+1) else s.aD cd)=.aS l aK ad n ae:=a1;split at a1
   ·grind
   ·exact h.e8 l aK ad n ae a1
  ·have a1:(if cd=i then .own b ((s.ab b).gen+1) else s.aD cd)=.aS l aK ad n ae:=aH;split at a1
   ·grind
   ·exact ((h.bU _ m hm).2 id xs an).1 l aK ad n ae a1
 grind
variable {dE:List (Nat×cc)}
theorem aqt{C:cJ}(D:bx C s a w kap F)(i b:Nat):∃ bV,bx C (Rn dE s i b) a w bV F:=by
 unfold Rn;split
 ·rename_i e ax _;have h:=RN D (b:=b) (e:=e);refine⟨_,{ h with b5:=λj=>?_,dY:=h.dY,dm:=h.dm,bH:=h.bH,e8:=λl aK ad n ae a1=>?_,bU:=λa1 m hm=>⟨(h.bU a1 m hm).1,λid xs an=>⟨λl aK ad n ae aH=>?_,((h.bU a1 m hm).2 id xs an).2⟩⟩ }⟩
  ·show bM C.P _ _ F w (if j=i then .own b ((s.ab b).gen+1) else s.aD j) _;split
   ·rename_i e;subst e;have ag:=D.b5 j;rw[ax]at ag;rw[ag];exact⟨⟨by simp[aE.cq],rfl⟩,λ_ _=>by simp[bL.slice]⟩
   ·exact h.b5 j
  ·have a1:(if cd=i then .own b ((s.ab b).gen+1) else s.aD cd)=.aS l aK ad n ae:=a1;split at a1
   ·grind
   ·exact h.e8 l aK ad n ae a1
  ·have a1:(if cd=i then .own b ((s.ab b).gen+1) else s.aD cd)=.aS l aK ad n ae:=aH;split at a1
   ·grind
   ·exact ((h.bU _ m hm).2 id xs an).1 l aK ad n ae a1
 ·rename_i ax _;exact aqr D ax
 grind
theorem aqu{C:cJ}(D:bx C s a w kap F)(c j b:Nat):∃ bV,bx C (Ro dE s c j b) a w bV F:=by
 unfold Ro;split
 ·rename_i t f hc;split
  ·rename_i e aC ay _;have h:=RN D (b:=b) (e:=e);have hv:(s.cq b ⟨(s.ab b).gen+1,.bo e []⟩).ab c=s.ab c:=by grind [aE.cq]
   have a6:=h.bH c;unfold c1 at a6;rw[hv,hc]at a6;obtain⟨cs,T,E,M,al⟩:=a6;refine⟨_,h.q5       (by rw[hv,hc];rfl) rfl
    (po (by grind) (λ_=>by rw[hv,hc];rfl) (λh=>by cases h) (λh=>by cases h) (λh=>by cases h)) (λ_=>by rw[hv,hc];rfl) (λh=>by cases h) (λ_ _=>rfl) rfl (dN.refl _) λH pw ai _=>?_⟩
   refine⟨cs,T,E,M,λq bC=>⟨?_,(al q bC).2⟩⟩;grind [bM,aE.cq,bL.slice,bM.later]
  grind
 grind
theorem aqv{C:cJ}(sh:eD)(D:bx C s a w kap F):∃ bV,bx C (sh.Li s) a w bV F:=by
 have E:∀ (l:List (Nat×cf)) (s:aE) (kap:Nat->bL),bx C s a w kap F->∃ bV,bx C (Lf sh.bH l s) a w bV F:=by
  intro l;induction l with
  | nil=>intro s kap h;exact⟨kap,h⟩
  | cons p l aR=>
   intro s kap h;simp  [Lf];split
   ·obtain⟨bV,e3⟩:=aqt   h p.1 _;exact aR _ _ e3
   grind
 have M:∀ (c:Nat) (l:List cf) (j:Nat) (s:aE) (kap:Nat->bL),bx C s a w kap F->∃ bV,bx C (Lg sh.bH c l j s) a w bV F:=by
  intro c l;induction l with
  | nil=>intro j s kap h;exact⟨kap,h⟩
  | cons t l aR=>
   intro j s kap h;simp  [Lg];split
   ·obtain⟨bV,e3⟩:=aqu   h c j _;exact aR _ _ _ e3
   ·exact aR _ _ _ h
 have al:∀ (l:List (Nat×cc)) (s:aE) (kap:Nat->bL),bx C s a w kap F->∃ bV,bx C (Lh sh.bH l s) a w bV F:=by
  intro l;induction l with
  | nil=>intro s kap h;exact⟨kap,h⟩
  | cons p l aR=>
   intro s kap h;simp  [Lh];split
   ·obtain⟨bV,e3⟩:=M p.1 _ 0 s kap h;exact aR _ _ e3
   grind
 obtain⟨aqw,gv⟩:=E sh.b5 s kap D;exact al sh.bH _ _ gv
theorem aay:∀ (l:List (Nat×cc)) (x:pD l) (b:Nat),(eP (ha dB l x) b).body.gT=true->∃ q∈l,q.1=b/\q.2.Z9=true
 | [],_,_,h=>by cases h
 | p::l,x,b,h=>by
  simp  [ha,eP]at h;by_cases e:b=p.1
  ·rw[if_pos e]at h;refine⟨p,by simp,e.symm,?_⟩;obtain⟨fU,t⟩:=p;cases t<;>first | rfl | cases h
  ·rw[if_neg e]at h;obtain⟨q,E,M⟩:=aay l _ b h;grind
theorem eD.DH{C:cJ}{sh:eD}{A:sh.aq}(h:sh.k0 s=some A)(D:bx C s a w kap F):∃ bV F',(∀ r,F r->F' r)/\bx C (sh.ae A) a w bV F':=by
  obtain⟨kap,D⟩:=aqv sh D;unfold eD.k0 at h;generalize sh.Li s=s at h D;split at h;case h_2=>grind
  rename_i AY;simp only[aQX]at h;obtain⟨⟨kK,b'⟩,h,rfl⟩:=h;obtain⟨F',f1,bm,ay⟩:=eD.aaw h D;have eJ:=λb U=>ay.xu (b:=b) U;exact⟨kap, F', f1, { bm with
    dY:=bm.dY,dm:=bm.dm,b5:=ay.b5,bH:=ay.bH,own:=λb U=>bm.own b (eJ b U),inj:=λb bk U dZ=>bm.inj b bk (eJ b U) (eJ bk dZ)
    iY:=λb r D hc=>bm.iY b r D (hc.imp (λhc=>by
      have aV:=(ay.DG b).2.1 hc;simp  [aE.cE];split
      · rcases AG s.ab (s.ab b) with e | ⟨_,_,an,_⟩ | ⟨_,_,_,an,_⟩ | ⟨_,_,_,_,_,_,e⟩
        · grind
        · rw[an]at aV;cases aV
        · rw[an]at aV;cases aV
        · rw[e];rfl
      omega) (λhc=>by
      have aV:=(ay.DG b).2.2.2.1 hc;simp  [aE.cE];split
      · rcases AG s.ab (s.ab b) with e | ⟨_,_,an,_⟩ | ⟨_,_,_,_,e⟩ | ⟨_,_,_,_,an,_,_⟩
        · grind
        · rw[an]at aV;cases aV
        · rw[e];rfl
        · rw[an]at aV;cases aV
      omega))
    jF:=λb k aj _ aZ=>by
      obtain⟨cH,b1,_⟩:=(ay.DG b).2.2.1 aZ;have aB:(s.ab b).gen=0:=by
        rcases aay sh.bH (eV dB sh.b5 kK).2 b aZ with⟨q,bC,rfl,hV⟩
        have:=List.all_eq_true.1 AY q bC;have bF:=D.ln _ k aj;grind
      obtain⟨aO,aT⟩:=D.jF b k aj aB cH;grind
    e8:=λl aK ad n ae e=>by
      obtain⟨E,M,Y,al,a7,bR⟩:=bm.e8 l aK ad n ae (ay.aS l aK ad n ae e);grind
    bU:=λe m hm=>by
      rcases ay.bU cG e m hm with k | rfl
      · have k':((s.cE b').ab cG).body=.bU e m:=by
          grind [aE.cE,fP]
        obtain⟨fU,fW⟩:=bm.bU e m k'
        refine⟨fU,λid xs an=>?_⟩
        obtain⟨mT,c6,cM,hU,lK,cv⟩:=fW id xs an
        exact⟨λl aK ad n ae aH=>mT l aK ad n ae (ay.aS l aK ad n ae aH),c6,cM,hU,λb U=>lK b (eJ b U),cv⟩
      simp }⟩
theorem eD.Bg{C:cJ}{sh:eD}{A:sh.aq}(h:sh.k0 s=some A)(D:de C s a w):de C (sh.ae A) a w:=by
 obtain⟨kap,F,D⟩:=D;obtain⟨bV,F',_,bm⟩:=eD.DH h D;exact⟨bV,F',bm⟩
end Go.Fer
namespace Go.Fer
open Go.RowKit
def aqx(C:cJ)(o:Oper)(s:aE)(cK:iH):Prop:=
 ∀ (a:Act) (w:World) (Q:Exit->Act->World->Prop) (K:Act->World->Prop),de C s a w->cK.cA->c8 cK.m (λy=>∀ a' w',de C (cK.ae y) a' w'->K a' w')->o.wpIn (e0 C.r) 0 C.P a w K Q
def aqy(C:cJ)(o:Oper)(s:aE)(cK:iH):Prop:=
 ∀ gs,cK.GZ=some gs->(∀ y a w,de C (cK.ae y) a w->de C (gs true y) a w)/\∀ a w,de C s a w->de C (gs false cK.d) (a.put o.dst Go.undef) w
structure rm(C:cJ)(o:Oper)(s:aE)(cK:iH):Prop where
 prog:aqx C o s cK
 aMC:aqy C o s cK
 aMD:vJ (bj C.aW s.aD) o->cK.cA
theorem de.RO{C:cJ}{s:aE}{d:Option Nat}{av Bf:aN}{a:Act}{w:World}(h:de C (s.set d av) a w)
  (ay:∀ i,d=some i->i<C.b3) (ag:∀ kap F v,bM C.P s.ab kap F w av v->bM C.P s.ab kap F w Bf v):de C (s.set d Bf) a w:=by
 cases d with
 | none=>exact h
 | some d=>
  obtain⟨kap,F,h⟩:=h;have aA:=h.hJ;have aH:cd≠d:=by grind [cd,fD]
  refine⟨kap,F,{ h with b5:=λi=>?_,dY:=h.dY,dm:=h.dm,bH:=h.bH,e8:=λl aK ad n ae e=>h.e8 l aK ad n ae ?_,bU:=h.bU.b5 rfl λl aK ad n ae e=>?_ }⟩
  ·have G:=h.b5 i;grind [aE.set]
  ·grind [aE.set]
  grind [aE.set]
section
variable {C:cJ} {T:Nat->aa} {bs:Nat->Option aQ} {o:Oper} {s:aE}
theorem Bi{args:List Operand}(U:vJ (bj C.aW s.aD) o)(aZ:∀ x∈args,x∈o.op.operands.toList):kk (args.map (bj C.aW s.aD)):=
 GL λv ag=>by
  simp  at ag;obtain⟨p,ak,rfl⟩:=ag;exact U p (aZ p ak)
theorem aaz(bp:∀ i,o.dst=some i->i<C.b3){aS:aa}{b':List Nat}(kY:iQ s.ab b'){d:aS.aq} :
  (∀ (y:aS.aq) a w,de C (uA s o aS b' (q6 aS y)) a w->de C (uA s o aS b' (.kB true (q6 aS y))) a w)/\∀ a w,de C s a w->de C (uA s o aS b' (.kB false (q6 aS d))) (a.put o.dst Go.undef) w:=by
 refine⟨λy a w h=>de.RO h bp λkap F v ag=>⟨λ_=>ag,λh=>(by grind)⟩,λa w h=>?_⟩;obtain⟨kap,F,D⟩:=h;obtain⟨F',_,bm,_⟩:=bx.mX kY D;unfold uA;split
 ·exact⟨kap,F,D.set bp ⟨λh=>(by grind),λ_=>rfl⟩⟩
 ·exact⟨kap,F',bm.set bp ⟨λh=>(by grind),λ_=>rfl⟩⟩
variable {ds:Array TypeId}{cK:iH}
theorem aqz(bp:∀ i,o.dst=some i->i<C.b3){k:Nat}{args:Array Operand}(au:o.op=.call { callee:=.value (.func k),args:=args,argTypes:=ds }){dL:jN}(aC:hI C.P k dL.ts dL.aS dL.sh)
  (h:G0 C.aW s o args.toList dL=some cK):rm C o s cK:=by
 unfold G0 at h;split at h
 ·rename_i x b' an;cases h;refine⟨λa w Q K D be hm=>?_,λgs pF=>?_,λU=>Bi U λx an=>by grind [Op.operands,Call.operands]⟩
  ·obtain⟨kap,F,D⟩:=D;exact QD D aC bp au be an hm.1 λy w' bf v hrel=>hm.2 y bf _ _ hrel
  ·cases pF;exact aaz bp (rZ _ an)
 grind
theorem aqA(bp:∀ i,o.dst=some i->i<C.b3){k:Nat}{args:Array Operand}(au:o.op=.call { callee:=.value (.func k),args:=args,argTypes:=ds }){dL:jN}(aC:hI C.P k dL.ts dL.aS dL.sh)(G_:F4 C.P k dL.ts dL.aS dL.sh)
  (h:Ln C.aW s o args.toList dL=some cK):rm C o s cK:=by
 unfold Ln at h;split at h
 ·rename_i x b' an;cases h;refine⟨λa w Q K D be hm=>?_,λgs pF=>(by grind),λU=>Bi U λx an=>by grind [Op.operands,Call.operands]⟩;obtain⟨kap,F,D⟩:=D;obtain⟨args⟩:=args;have dA:(execOp a.eval o).run C.P w=.ok (.enter k (args.map a.eval).toArray) w:=by
   simp  [execOp,au,resolve,Act.eval,Deferred.ofValue,invoke];have:=aC.enter (args.map a.eval).toArray w;grind
  obtain⟨F',f1,bm,f2⟩:=bx.mX (rZ _ an) D;have fv:gB C.P dL.ts F' w (args.map a.eval) x:=by
   refine xf D.bH f1 dL.ts an f2 (by simp) λi G ea=>?_;have E:=uh be i (by grind);grind [q7,lO]
  refine yF (by grind) dA (G_.iv F' w _ x bm.du bm.h4 fv hm.1) λe w' ⟨v,y,he,bf,gY,U⟩=>⟨v,he,hm.2 y bf _ _ ⟨kap,_,(D.grow U).set bp (AQ ?_)⟩⟩
  obtain⟨aI,c6,cM,hU⟩:=gY;exact⟨aI,c6,cM,fM _ (λr D=>.inr D) (dk.refl _ _) hU⟩
 grind
theorem aqB(bp:∀ i,o.dst=some i->i<C.b3){t:Nat}{args:Array Operand}(au:o.op=.call { callee:=.value (.tmp t),args:=args,argTypes:=ds })
  (h:G1 C.aW s o t args.toList=some cK):rm C o s cK:=by
 unfold G1 at h;split at h
 ·rename_i cA aK b f hu;split at h
  ·rename_i x b' an;cases h;obtain⟨args⟩:=args;refine⟨λa w Q K D be hm=>?_,λgs pF=>?_,λU=>⟨?_,Bi U λx an=>by grind [Op.operands,Call.operands]⟩⟩
   ·obtain⟨kap,F,D⟩:=D;obtain⟨F',f1,bm,f2⟩:=bx.mX (rZ _ an) D;have fv:gB C.P aK F' w (args.map a.eval) x:=by
     refine xf D.bH f1 aK an f2 (by simp) λi G ea=>?_;have E:=uh be.2 i (by grind);grind [q7,lO]
    have LK:bM C.P s.ab kap F w (use (bj C.aW s.aD (.tmp t))).2 (a.eval (.tmp t)):=da D (.tmp t) hu be.1 |> λh=>by
     grind [bj]
    have e:use (bj C.aW s.aD (.tmp t))=(cA,.val (.fn aK b) f):=hu;rw[e]at LK;obtain⟨_,u,LL,_,ho⟩:=(eh rfl).1 LK;obtain⟨g,dS,aB,uH,RP⟩:=ho F' w f1 (dk.refl _ _) bm.du bm.h4 (args.map a.eval) x fv.1 fv.2 hm.1;have dA:(execOp a.eval o).run C.P w=.ok (.enter g ((args.map a.eval).toArray++dS)) w:=by
     grind [execOp,resolve,Deferred.ofValue,invoke]
    refine yF (by grind) dA RP λe w' ⟨v,y,aI,he,bf,E,M,al,U⟩=>⟨v,he,hm.2 y bf _ _ ?_⟩
    have gY:tW C.P b (w2 F' w w') w' v y:=⟨aI,E,M,al⟩
    unfold uA;by_cases ak:b.pure=true
    ·rw[if_pos ak];have aB:=D.grow U;refine⟨kap,_,aB.set bp (AQ ?_)⟩;exact⟨aI,E,QC ak ⟨M,al⟩⟩
    ·rw[if_neg ak];have aB:=bm.grow U;exact⟨kap,_,aB.set bp (AQ gY)⟩
   ·cases pF;exact aaz bp (rZ _ an)
   ·have:=U (.tmp t) (by grind [Op.operands,Call.operands]);grind [bj]
  grind
 grind
variable {x:Operand}
theorem aqC(aU:ei C.P T)(bp:∀ i,o.dst=some i->i<C.b3){ty:TypeId}(au:o.op=.range ty x)(h:Lt C.aW T s o ty x=some cK):rm C o s cK:=by
 unfold Lt at h;split at h
 ·rename_i k v d aH ay;split at h;rename_i cA av hu;split at h
  ·rename_i es b' rX;split at h
   ·grind
   ·cases h;obtain⟨i,j,G,_,_⟩:=(aU.cb aH (by simp)).mp;refine⟨λa w Q K D be hm=>?_,λgs pF=>(by grind),λU=>vJ.use U (by grind [Op.operands]) hu⟩;obtain⟨kap,F,D⟩:=D;obtain⟨F',f1,bm,f2⟩:=bx.mX (pv rX) D;have ag:=da D x hu be;have q_:=((eh rfl).1 (oP D.bH f1 rX f2 ag)).2;have kL:=hm.2 () rfl;have sX:(s.cE b').ab d=s.ab d:=by grind [aE.cE]
    have fin:∀ (cI:Obj),(∀ w',w'=w.alloc cI->Aq C.P k v F' w' w.heap.size none es)->(execOp a.eval o).run C.P w=.ok (.value (.pointer (some ⟨w.heap.size,0,none⟩))) (w.alloc cI)->o.wpIn (e0 C.r) 0 C.P a w K Q:=by
     intro cI hit dA;have E:=bm.alloc   (x:=⟨(s.ab d).gen+1,.cI k v none es⟩) (D.iR (bp d ay)) (by grind)   (k:=⟨w.heap.size,0,0,false⟩) rfl λH bV _ _ _=>hit _ rfl;refine ig (by grind) dA (kL _ _ ⟨_,F',bx.set   E bp ⟨⟨by simp[aE.cq],rfl⟩,λ_ _=>by simp⟩⟩)
    rcases q_ with⟨aF,rfl⟩ | ⟨r,ms,clk,aF,m1,m2,m3,m4,m5,m6⟩
    ·refine fin (.mapIter none 0 #[] 0) (λw' hw=>.inl ⟨by grind [ua],rfl,rfl⟩) ?_;simp_all[execOp,Instr.range,ep]
    ·have an:=(aQC aF).1;refine fin (.mapIter (some r) clk #[] clk) (λw' hw=>.inr ⟨r,ms,clk,#[],m1,?_,by grind [ua],λi G=>(m5 i (by omega) G).2.2.2.2,m6,?_,λc hc=>by grind⟩) ?_
     ·grind [rT]
     ·refine⟨List.range ms.size,by grind,List.nodup_range,λi=>by simp,λj aM gV=>?_⟩;have aaA:j<ms.size:=by omega
      obtain⟨aO,aT,b7,gZ,_⟩:=m5 j gV aaA;refine⟨by grind,?_⟩;simp;have he:dk F' w w':=by rw[hw];exact dk.alloc bm.du _
      exact CZ.mono ⟨aO,aT,b7,gZ⟩ (λ_ h=>h) he
     ·have gh:(getObj r).run C.P w=.ok (.map ms clk) w:=by grind [getObj,Sem.run]
      simp[execOp,au,Instr.range,ep G,an,gh]
  grind
 grind
theorem aqD(bp:∀ i,o.dst=some i->i<C.b3)(au:o.op=.entry x)(h:Lw C.aW s o x=some cK):rm C o s cK:=by
 unfold Lw at h;split at h
 ·rename_i b g an;split at h
  ·rename_i aB;split at h
   ·rename_i k v c b9 U;cases h;refine⟨λa w Q K D _ hm=>?_,λgs pF=>(by grind),λ_=>trivial⟩;obtain⟨kap,F,D⟩:=D;have ag:=lO D x;rw[an]at ag;have ag:=ag.2 aB.symm (by rw[U];rfl);have a6:=D.bH b;unfold c1 at a6;rw[U]at a6;have hL:=ib.1 hm;have kL:=dR.1 hL.2;obtain⟨gr,kG⟩:=Option.isSome_iff_exists.1 hL.1;subst kG;rcases a6 with⟨_,_,e⟩ | ⟨oM,es,clk,hs,E,M,al,a7,bR,_,jj⟩
    ·grind
    ·obtain⟨i,G,ax,he⟩:=jj gr rfl;have GK:es.find? (λe=>e.born == es[i].born)=some es[i]:=by
      cases aC:es.toList.find? (λe=>e.born == es[i].born) with
      | none=>grind
      | some e=>
       grind [List.mem_iff_getElem]
     have G':(getObj (kap b).ab).run C.P w=.ok (.mapIter (some oM) clk hs clk) w:=by grind [getObj,Sem.run]
     have uv:(getObj oM).run C.P w=.ok (.map es clk) w:=by grind [getObj,Sem.run]
     have dA:(execOp a.eval o).run C.P w=.ok (.value (.tuple #[es[i].key,es[i].val])) w:=by
      simp[execOp,au,Instr.entry,ag,G',uv,ax,GK]
     refine ig (by grind) dA (kL _ _ ⟨kap,F,D.set bp ⟨[es[i].key,es[i].val],rfl,rfl,λn aA=>?_⟩⟩);match n,aA with
     | 0,_=>exact⟨he.1,he.2.1⟩
     | 1,_=>exact⟨he.2.2.1,he.2.2.2⟩
   grind
  grind
 grind
theorem aqE{es:Array MapEntry}{hs:Array Nat}{clk:Nat}(a7:∀ i (h:i<es.size),es[i].born<clk) :
  (es.filter λe=>!hs.contains e.born).filter (λe=>decide (e.born<clk))=(es.filter λe=>!hs.contains e.born)/\(es.filter λe=>!hs.contains e.born).filter (λe=>decide (e.born>=clk))=#[]:=by
 have gA:∀ e∈es.filter λe=>!hs.contains e.born,e.born<clk:=by
  grind [Array.mem_iff_getElem]
 grind [Array.filter_eq_self,Array.filter_eq_empty_iff]
theorem aqF(P:Program)(w:World)(n:Nat):∃ j w',(choose (.mapNext n)).run P w=.ok j w'/\(0<n->j<n)/\(w'=w\/w'=w.drew):=by
 rw[run_choose];by_cases h:n<=1
 ·have:(Question.mapNext n).forced=true:=by grind [Question.forced]
  rw[this];grind
 ·have:(Question.mapNext n).forced=false:=by grind [Question.forced]
  rw[this];exact⟨_,_,rfl,λaA=>Nat.mod_lt _ aA,.inr rfl⟩
theorem aqG(bp:∀ i,o.dst=some i->i<C.b3){str:Bool}(au:o.op=.next x str)(h:Lv C.aW s o x str=some cK):rm C o s cK:=by
  unfold Lv at h;split at h
  · rename_i b g an
    split at h
    · rename_i aB
      split at h
      · rename_i k v c b9 U
        cases h
        refine⟨λa w Q K D _ hm=>?_,λgs pF=>(by grind),λ_=>trivial⟩
        obtain⟨kap,F,D⟩:=D
        have ag:=lO D x
        rw[an]at ag
        have ag:=ag.2 aB.symm (by rw[U];rfl)
        have a6:=D.bH b
        unfold c1 at a6
        rw[U]at a6
        have ay:∀ c,o.op≠.defer c:=by grind
        have h1:∀ w',(w'=w\/w'=w.drew)->b9=[]->(execOp a.eval o).run C.P w=.ok (.value (.tuple #[.bool false])) w'->o.wpIn (e0 C.r) 0 C.P a w K Q:=by
          intro w' DI r5 dA;have cY:bx C s a w' kap F:=by
            rcases DI with rfl | rfl
            · omega
            · exact D.drew
          have Zt:s.cq b ⟨g,.cI k v c b9⟩=s:=by
            unfold aE.cq;congr 1;funext i;by_cases G:i=b
            · rw[if_pos G,G,<-U,<-aB]
            grind
          refine ig ay dA (hm.2 none r5 _ _ ⟨kap,F,bx.set (s:=s.cq b ⟨g,.cI k v c b9⟩) (by grind) bp ⟨[.bool false],rfl,rfl,λn aA=>?_⟩⟩);have:=by simp  [aaj]at aA;omega
          subst this;exact h2.2 rfl
        rcases a6 with⟨E,M,_⟩ | ⟨oM,es,clk,hs,E,M,al,a7,bR,⟨ids,i1,i2,i3,i4⟩,jj⟩
        · refine h1 w (.inl rfl) M ?_
          have G':(getObj (kap b).ab).run C.P w=.ok (.mapIter none 0 #[] 0) w:=by simp[getObj,Sem.run,E]
          simp[execOp,au,Instr.next,ag,G']
        · have G':(getObj (kap b).ab).run C.P w=.ok (.mapIter (some oM) clk hs clk) w:=by simp[getObj,Sem.run,al]
          have uv:(getObj oM).run C.P w=.ok (.map es clk) w:=by simp[getObj,Sem.run,M]
          obtain⟨f1,f2⟩:=aqE   a7
          have gA:(!hs.isEmpty&&!es.isEmpty&&es.all (λe=>decide (e.born>=clk)))=false:=by
            by_cases he:es.size=0
            · grind
            · have:es.all (λe=>decide (e.born>=clk))=false:=by
                rw[Array.all_eq_false];exact⟨0,by omega,by grind⟩
              grind
          generalize aqH:(es.filter λe=>!hs.contains e.born)=left at f1 f2
          have aqI:((if left.isEmpty=true then #[none] else #[])++Array.map some (left++(#[])))=(if left.isEmpty=true then #[none] else Array.map some left):=by
            grind
          obtain⟨j,w',bI,c2,c3⟩:=aqF C.P w (if left.isEmpty=true then #[none] else Array.map some left).size
          have dj:w'.heap=w.heap:=by rcases c3 with rfl | rfl<;>rfl
          have RQ : ∀ r dP, (match (if left.isEmpty = true then #[none] else Array.map some left)[j]? with
                | some (some e)=>(do setObj (kap b).ab (.mapIter (some oM) clk (hs.push e.born) clk);pure (.tuple #[.bool true,e.key,e.val]):Sem Value)
                | some none=>pure (.tuple #[.bool false])
                | none => stuck "Next: no such candidate").run C.P w' = .ok r dP -> (execOp a.eval o).run C.P w = .ok (.value r) dP := by
            intro r dP cY;simp only[execOp,au,Instr.next,ag,Sem.run_bind,G',Result.andThen_ok,uv,gA,amW,aQv,aqH,f1,f2,aqI,bI];exact (congrArg (λz=>z.andThen λv w'=>Sem.run C.P (Pure.pure (Next.value v)) w') cY).trans rfl
          by_cases hle:left.isEmpty=true
          · have r5:b9=[]:=by
              have:ids=[]:=List.eq_nil_iff_forall_not_mem.2 λi G=>by
                simp_all
              grind
            rw[hle]at RQ c2
            have aM:j=0:=by grind
            subst aM
            exact h1 w' c3 r5 (RQ _ _ rfl)
          · have aM:j<left.size:=by grind
            have pB:left[j]∈(es.filter λe=>!hs.contains e.born):=by grind
            obtain⟨xh,aME⟩:=Array.mem_filter.1 pB
            obtain⟨i0,sY,aMF⟩:=Array.mem_iff_getElem.1 xh
            have aqJ:=(i3 i0).2 ⟨sY,by grind⟩
            obtain⟨q,bC,LM⟩:=List.mem_iff_getElem.1 aqJ
            have RR:q<b9.length:=by omega
            have ra:(setObj (kap b).ab (.mapIter (some oM) clk (hs.push left[j].born) clk)).run C.P w'=.ok () { w' with heap:=w'.heap.setIfInBounds (kap b).ab (.mapIter (some oM) clk (hs.push left[j].born) clk) }:=by
              simp[setObj,Sem.run,dj,al]
            have dA:=RQ (.tuple #[.bool true,left[j].key,left[j].val]) { w' with heap:=w'.heap.setIfInBounds (kap b).ab (.mapIter (some oM) clk (hs.push left[j].born) clk) } (by
              simp_all)
            have kE:dN w w':=by rcases c3 with rfl | rfl<;>exact⟨rfl,rfl,rfl⟩
            have hx:fN s.ab kap (λi=>if i=b then (⟨g,.cI k v b9[q]? (b9.eraseIdx q)⟩) else s.ab i) kap:=
              po aB.symm (λh=>by cases h) (λh=>by cases h) (λh=>by cases h) (λ_=>by rw[U];rfl)
            have gJ:=D.q5     (w':={ w' with heap:=w'.heap.setIfInBounds (kap b).ab (.mapIter (some oM) clk (hs.push left[j].born) clk) }) (by rw[U];rfl) rfl hx (λh=>by cases h) (λh=>by cases h)
              (λr QL=>by grind) (by grind) ⟨kE.os,kE.tape,kE.output⟩ λH _ _ he=>by
                refine .inr ⟨oM,es,clk,hs.push left[j].born,E,?_,by grind,a7,bR,⟨ids.eraseIdx q,?_,?_,λi=>?_,λn aA xk=>?_⟩,λgr kG=>?_⟩
                · grind
                · grind
                · grind
                · rw[List.mem_eraseIdx_iff_getElem]
                  constructor
                  · rintro⟨n,aA,LN,rfl⟩
                    obtain⟨jK,lQ⟩:=(i3 ids[n]).1 (by simp)
                    refine⟨jK,?_⟩
                    simp only[Array.contains_push,aQ5]
                    refine⟨lQ,?_⟩
                    simp
                    intro e
                    exact LN ((List.getElem?_inj aA i2).1 (by grind))
                  · rintro⟨jK,lQ⟩
                    grind [List.mem_iff_getElem]
                · have yR:(ids.eraseIdx q)[n]=if h:n<q then ids[n]'(by omega) else ids[n+1]'(by grind):=by
                    grind
                  have aaB:(b9.eraseIdx q)[n]=if h:n<q then b9[n]'(by omega) else b9[n+1]'(by grind):=by
                    grind
                  have hlen:n+1<ids.length:=by grind
                  by_cases LN:n<q
                  · obtain⟨jK,lQ⟩:=i4 n (by omega) (by omega)
                    simp  [yR,aaB,LN]
                    exact⟨jK,lQ.mono (λ_ h=>h) he⟩
                  · obtain⟨jK,lQ⟩:=i4 (n+1) hlen (by omega)
                    simp  [yR,aaB,LN]
                    exact⟨jK,lQ.mono (λ_ h=>h) he⟩
                · rw[am3 RR]at kG
                  cases kG
                  obtain⟨jK,lQ⟩:=i4 q bC RR
                  refine⟨i0,sY,by grind,?_⟩
                  have aF:es[ids[q]]=es[i0]:=by grind
                  rw[aF]at lQ
                  exact lQ.mono (λ_ h=>h) he
            refine ig ay dA (hm.2 (some q) RR _ _ ⟨kap,F,bx.set   gJ bp ⟨[.bool true,left[j].key,left[j].val],rfl,rfl,λn aA=>?_⟩⟩)
            match n,aA with
            | 0,_=>exact h2.2 rfl
            | 1,_=>trivial
            | 2,_=>trivial
      grind
    grind
  grind
end
end Go.Fer
namespace Go.Fer
open Go.RowKit
def Ha:z10'->List Value->List Value->Prop
 | [],[],aI=>aI=[]
 | none::g,u::us,aI=>∃ tX,aI=u::tX/\Ha g us tX
 | some n::g,u::us,aI=>∃ cs tX,u=.agg cs/\cs.size=n/\(∀ c∈cs.toList,c.oneCell'=true)/\aI=cs.toList++tX/\Ha g us tX
 | _,_,_=>False
def LO(g:z10')(v:Value)(aI:List Value):Prop:=∃ us:List Value,us.length=g.length/\v=(if us.length=1 then us.getD 0 undef else .tuple us.toArray)/\Ha g us aI
structure cW(P:Program)(aJ:dX)(k:FuncId)(c:cO):Prop where
 enter:∀ args w,(callFunc k args).run P w=.ok (.enter k args) w
 iv:∀ (C:cJ) (a:Act) (w:World) (kap:Nat->bL) (F:Nat->Prop) (A:c.cC.aq),C.P=P->C.et=w->C.r=none->C.dm=[]->C.b3=c.k1->C.aW=aJ->bx C (c.cC.ae A) a w kap F->(c.sh A).fr->
  Calls P k a.tmps w λe w'=>∃ v bn aI bV F',e=.returned v/\(c.sh A).a8 bn/\LO c.lu v aI/\bx { C with b3:=aI.length } (c.a8.ae bn) { tmps:=aI.toArray,defers:=[] } w' bV F'
section
variable {P:Program} {H H':Nat->b_} {kap bV:Nat->bL} {F:Nat->Prop} {w:World} {g:Nat->z21'}
def r6(H H':Nat->b_)(kap bV:Nat->bL)(g:Nat->z21'):Prop:=∀ b,(H b).gen=0/\t' ⟨(g b).2,(H b).body⟩ (H' (g b).1) (kap b) (bV (g b).1)
theorem r6.eZ(h:r6 H H' kap bV g){b off:Nat}{v:Value}(ag:bM P H kap F w (.eZ b 0 off) v):bM P H' bV F w (.eZ (g b).1 (g b).2 off) v:=by
 obtain⟨aV,aO,aT⟩:=h b;refine⟨⟨aO,ag.1.2⟩,λaB hc=>?_⟩;obtain⟨bI,c2⟩:=(aT aB).1 hc;rw[c2];exact ag.2 aV.symm bI
theorem r6.av(h:r6 H H' kap bV g)(t:cf){R:Type}(z:t.cons R){v:Value}(ag:bM P H kap F w (t.av dB z).1 v):bM P H' bV F w (t.av g z).1 v:=by
 cases t with
 | undef=>trivial
 | val t=>exact ag
 | eL t=>exact ag
 | eZ b off=>exact h.eZ ag
 | own b=>
  obtain⟨aV,aO,aT⟩:=h b;refine⟨⟨aO,ag.1.2⟩,λaB hc=>?_⟩;obtain⟨bI,c2,c3,c4⟩:=(aT aB).2.1 hc;rw[c2,c3];exact ag.2 aV.symm bI
 | sub b=>
  obtain⟨aV,aO,aT⟩:=h b;refine⟨⟨aO,ag.1.2⟩,λaB hc=>?_⟩;obtain⟨bI,c2,c3,c4⟩:=(aT aB).2.1 hc;rw[c2,c3,c4];exact ag.2 aV.symm bI
 | hq b=>
  obtain⟨aV,aO,aT⟩:=h b;refine⟨⟨aO,ag.1.2⟩,λaB hc=>?_⟩;obtain⟨bI,c2⟩:=(aT aB).2.2.1 hc;rw[c2];exact ag.2 aV.symm bI
 | l9 b=>
  obtain⟨aV,aO,aT⟩:=h b;refine⟨⟨aO,ag.1.2⟩,λaB hc=>?_⟩;obtain⟨bI,c2⟩:=(aT aB).2.2.2 hc;rw[c2];exact ag.2 aV.symm bI
 | dd=>exact ag
 | jl k hK=>
  obtain⟨aI,E,M,al⟩:=ag;refine⟨aI,E,M,λi G=>?_⟩;have:=al i G;have aF:yL dB hK i=.eZ hK[i].1 0 hK[i].2:=by simp_all[yL,h5,dB]
  have bB:yL g hK i=.eZ (g hK[i].1).1 (g hK[i].1).2 hK[i].2:=by simp_all[yL,h5]
  rw[aF]at this;rw[bB];exact h.eZ this
 | fG dE=>
  obtain⟨aI,E,M,al⟩:=ag;refine⟨aI,E,M,λi G=>?_⟩;obtain⟨this,kG⟩:=al i G;refine⟨?_,kG⟩;have aF:yM dB dE i=.own dE[i] 0:=by simp_all[yM,h5,dB]
  have bB:yM g dE i=.own (g dE[i]).1 (g dE[i]).2:=by simp_all[yM,h5]
  rw[aF]at this;rw[bB];obtain⟨aV,aO,aT⟩:=h dE[i];refine⟨⟨aO,this.1.2⟩,λaB hc=>?_⟩;obtain⟨bI,c2,c3,c4⟩:=(aT aB).2.1 hc;rw[c2,c3];exact this.2 aV.symm bI
 | hS b=>
  obtain⟨aV,aO,aT⟩:=h b;refine⟨⟨aO,ag.1.2⟩,λaB hc=>?_⟩;obtain⟨bI,c2⟩:=(aT aB).1 hc;rw[c2];exact ag.2 aV.symm bI
 | ke b=>
  obtain⟨aV,aO,aT⟩:=h b;refine⟨⟨aO,ag.1.2⟩,λaB hc=>?_⟩;obtain⟨bI,c2,c3,c4⟩:=(aT aB).2.1 hc;rw[c2,c3,c4];exact ag.2 aV.symm bI
 | aS aK=>trivial
 | iw=>exact ag
variable {R:Type}
theorem DJ(t:cf)(z:t.cons R):(t.av g z).2=(t.av dB z).2:=by cases t<;>rfl
theorem aaC:∀ (ts:List cf) {R:Type} (z:s3 ts R),(r0 g ts z).2=(r0 dB ts z).2
 | [],_,_=>rfl
 | t::ts,_,z=>by simp  [r0];rw[DJ   t z];exact aaC ts _
theorem RS(t:cc)(z:t.cons R):(t.body g z).2=(t.body dB z).2:=by
 cases t with
 | cells t l=>exact aaC l z
 | ie e t=>exact DJ t z.2
 | _=>rfl
theorem LP:∀ (ts:List (Nat×cf)) {R:Type} (z:rk ts R),(eV g ts z).2=(eV dB ts z).2
 | [],_,_=>rfl
 | p::ts,_,z=>by simp  [eV];rw[DJ   p.2 z];exact LP ts _
theorem r6.cV(h:r6 H H' kap bV g):∀ (ts:List cf) {R:Type} (z:s3 ts R) (i:Nat) {v:Value},bM P H kap F w ((r0 dB ts z).1.getD i .undef) v->bM P H' bV F w ((r0 g ts z).1.getD i .undef) v
 | [],_,_,i,v,_=>by simp[r0,bM]
 | t::ts,_,z,i,v,ag=>by
  simp  [r0]at ag ⊢;cases i with
  | zero=>exact h.av t z ag
  | succ i=>
   rw[DJ   t z];exact h.cV ts _ i ag
theorem r6.b5(h:r6 H H' kap bV g):∀ (ts:List (Nat×cf)) {R:Type} (z:rk ts R) (i:Nat) {v:Value},bM P H kap F w (fw (eV dB ts z).1 i) v->bM P H' bV F w (fw (eV g ts z).1 i) v
 | [],_,_,i,v,_=>by simp[eV,fw,bM]
 | p::ts,_,z,i,v,ag=>by
  simp  [eV,fw]at ag ⊢;by_cases e:i=p.1
  ·rw[if_pos e]at ag ⊢;exact h.av p.2 z ag
  ·rw[if_neg e]at ag ⊢;rw[DJ   p.2 z];exact h.b5 ts _ i ag
theorem RT:∀ (ts:List (Nat×cf)) {R:Type} (z:rk ts R) (i:Nat) {l aK ad n ae},fw (eV g ts z).1 i=.aS l aK ad n ae->fw (eV dB ts z).1 i=.aS l aK ad n ae
 | [],_,_,i,_,_,_,_,_,h=>by grind [eV]
 | p::ts,_,z,i,l,aK,ad,n,ae,h=>by
  simp  [eV,fw]at h ⊢;by_cases e:i=p.1
  ·rw[if_pos e]at h ⊢;obtain⟨fU,t⟩:=p;cases t<;>first | exact h | cases h
  ·rw[if_neg e]at h ⊢;rw[DJ   p.2 z]at h;exact RT ts _ i h
def Bj(x y:ca):Prop:=x.hr=y.hr/\x.gT=y.gT/\x.len=y.len/\x.gU=y.gU/\x.iX=y.iX/\x.q4=y.q4/\∀ k,x.cg k=y.cg k
theorem Bj.refl(x:ca):Bj x x:=⟨rfl,rfl,rfl,rfl,rfl,rfl,λ_=>rfl⟩
theorem aqK(t:cc)(z:t.cons R):Bj (t.body g z).1 (t.body dB z).1:=by
 cases t with
 | cells t l=>exact⟨rfl,rfl,rfl,rfl,rfl,rfl,λ_=>rfl⟩
 | ie e t=>exact⟨rfl,rfl,rfl,rfl,rfl,rfl,λ_=>rfl⟩
 | _=>exact Bj.refl _
theorem aqL:∀ (t:aa) (x:t.aq) (av:aN),av∈qc t x->∀ {v:Value},bM P H kap F w av v->bM P H' bV F w av v:=by
  intro t;induction t with
  | dc=>intro x av h;cases h
  | ae t aR=>intro x av h;exact aR x av h
  | aw a b hp gq=>
   intro x av h;rcases List.mem_append.1 h with h | h<;>grind
  | array n e aR=>
   grind [qc]
  | _=>
   intro x av h v ag;simp only[qc,aRA]at h;subst h;exact ag
theorem r6.body(h:r6 H H' kap bV g)(t:cc){R:Type}(z:t.cons R){k:bL}(U:mA P H kap F w k (t.body dB z).1):mA P H' bV F w k (t.body g z).1:=by
 cases t with
 | cells t l=>
  obtain⟨cs,T,E,M,al⟩:=U;exact⟨cs,T,E,M,λi G=>⟨h.cV l z i (al i G).1,(al i G).2⟩⟩
 | gE t=>
  obtain⟨cs,T,E,M,al⟩:=U;refine⟨cs,T,E,M,λi G=>⟨?_,(al i G).2⟩⟩;have:=(al i G).1;unfold h5 at this ⊢;rw[am1]at this ⊢;cases ai:(qc t z.1)[i]? with
  | none=>trivial
  | some av=>
   grind [aqL]
 | bo e=>exact U
 | jD e=>exact U
 | mp k v=>exact U
 | lh k v=>exact U
 | ix t=>exact U
 | cI k v=>exact U
 | bU e=>exact U
 | ie e t=>
  obtain⟨aV,cs,T,E,M,al,a7,bR,er,jj,ld⟩:=U;exact⟨aV,cs,T,E,M,al,a7,bR,er,h.av t z.2 jj,ld⟩
theorem RU{l:List (Nat×cc)}{x y:pD l}(h:x=y)(g:Nat->z21')(b:Nat):eP (ha g l x) b=eP (ha g l y) b:=by rw[h]
theorem aaD:∀ (l:List (Nat×cc)) (x:pD l) (b:Nat),Bj (eP (ha g l x) b).body (eP (ha dB l x) b).body
 | [],_,_=>Bj.refl _
 | p::l,x,b=>by
  simp  [ha,eP];split
  ·grind [aqK]
  ·rw[RS   p.2 x];exact aaD l _ b
theorem aaE:∀ (l:List (Nat×cc)) (x:pD l) (b:Nat) {e:aa} {m:List (Nat×List e.aq)},(eP (ha g l x) b).body=.bU e m->(eP (ha dB l x) b).body=.bU e m
 | [],_,_,_,_,h=>by cases h
 | p::l,x,b,e,m,h=>by
  simp  [ha,eP]at h ⊢;by_cases k:b=p.1
  ·rw[if_pos k]at h ⊢;obtain⟨fU,t⟩:=p;cases t<;>first | exact h | cases h
  ·rw[if_neg k]at h ⊢;rw[RS   p.2 x]at h;exact aaE l _ b h
theorem r6.bH(h:r6 H H' kap bV g):∀ (l:List (Nat×cc)) (x:pD l) (b:Nat) {k:bL},mA P H kap F w k (eP (ha dB l x) b).body->mA P H' bV F w k (eP (ha g l x) b).body
 | [],_,_,k,_=>trivial
 | p::l,x,b,k,U=>by
  simp  [ha,eP]at U ⊢;split
  ·rename_i e;rw[if_pos e]at U;exact h.body p.2 x U
  ·rename_i e;rw[if_neg e]at U;rw[RS   p.2 x];exact h.bH l _ b U
theorem RV:∀ (l:List (Nat×ca)) (b:Nat),(eP l b).gen=0
 | [],_=>rfl
 | p::l,b=>by
  simp  [eP];split
  ·rfl
  ·exact RV l b
end
end Go.Fer
namespace Go.Fer
open Go.RowKit
theorem LQ{af:Type}{k:af->Nat}:∀ {l:List af},(l.map k).Nodup->∀ {p:af},p∈l->l.find? (λq=>k q == k p)=some p
 | [],_,_,h=>by grind
 | a::l,aA,p,h=>by
  simp  at aA;by_cases e:k a=k p
  ·grind
  ·rw[List.find?_cons_of_neg (by grind)];rcases List.mem_cons.1 h with rfl | h
   ·omega
   ·exact LQ aA.2 h
theorem Hb{af:Type}{k:af->Nat}{l:List af}(aA:(l.map k).Nodup){p q:af}(ak:p∈l)(bC:q∈l)(e:k p=k q):p=q:=by
 have E:=LQ aA ak;simp_all[LQ]
theorem aaF:∀ {l:z8'},(l.map (·.1)).Nodup->∀ {p},p∈l->gM l p.1=p.2
 | [],_,_,h=>by grind
 | a::l,aA,p,h=>by
  simp  at aA;simp  [gM];by_cases e:p.1=a.1
  ·grind
  ·rw[if_neg e];rcases List.mem_cons.1 h with rfl | h
   ·omega
   ·exact aaF aA.2 h
theorem aaG:∀ {l:z8'} {b:Nat},b ∉ l.map (·.1)->gM l b=(s4,0)
 | [],_,_=>rfl
 | a::l,b,h=>by
  simp only[aQ0,aRK,not_or]at h;simp  [gM];rw[if_neg h.1];exact aaG h.2
theorem aaH(s:aE)(d:Nat)(f:Nat->Nat)(ins:List Nat):∀ (l:List (Nat×cc)) (j:Nat),(s5 s d f ins l j).map (·.1)=l.map (·.1)
 | [],_=>rfl
 | p::l,j=>by
  simp  [s5,aaH s d f ins l (j+1)];grind
theorem aaI(s:aE)(d:Nat)(f:Nat->Nat)(ins:List Nat):∀ (l:List (Nat×cc)) (j:Nat) {p:Nat×(z21')},p∈s5 s d f ins l j->
  (p.1∈ins/\p.2.1=f p.1/\∃ t,(p.1,t)∈l/\((p.2.2=(s.ab (f p.1)).gen/\((∀ (g:Nat->z21') (R:Type) (z:t.cons R),(t.body g z).1.gT=false)\/(Ar<=p.1/\∃ e,t=.bo e)))\/p.2.2=(s.ab (f p.1)).gen+1))\/
  (p.1 ∉ ins/\p.2.2=(s.ab p.2.1).gen+1/\50000+10*d+j<=p.2.1/\p.2.1<50000+10*d+j+l.length)\/
  (p.2=(cG,(s.ab cG).gen)/\∃ e,(p.1,cc.bU e)∈l)
 | [],_,p,h=>by cases h
 | q::l,j,p,h=>by
  simp only[s5,aRK]at h;rcases h with h | h
  ·by_cases mY:q.2.l_=true
   ·subst h;obtain⟨c6,cM⟩:=q;cases cM<;>first | exact .inr (.inr ⟨rfl,_,aRz⟩) | cases mY
   rw[if_neg mY]at h;by_cases bC:ins.contains q.1=true
   ·rw[if_pos bC]at h;subst h;refine .inl ⟨by grind,rfl,q.2,by simp,?_⟩;obtain⟨c6,t⟩:=q;cases t with
    | bo e=>
     grind
    | bU e=>simp
    | _=>first | exact .inr rfl | exact .inl ⟨rfl,.inl λ_ _ _=>rfl⟩
   grind
  ·rcases aaI s d f ins l (j+1) h with⟨E,M,t,al,a7⟩ | ⟨E,M,al,a7⟩ | ⟨E,e,M⟩<;>grind
theorem Bk(g:Nat->z21'):∀ (l:List (Nat×cc)) (x:pD l) (b:Nat),(eP (ha g l x) b=⟨0,.ez⟩/\b ∉ l.map (·.1))\/∃ q∈l,q.1=b/\∃ (R:Type) (z:q.2.cons R),eP (ha g l x) b=⟨0,(q.2.body g z).1⟩
 | [],_,_=>.inl ⟨rfl,by simp⟩
 | p::l,x,b=>by
  simp  [ha,eP];by_cases e:b=p.1
  ·grind
  ·rcases Bk g l (p.2.body g x).2 b with⟨E,M⟩ | ⟨q,E,M⟩<;>grind
theorem aaJ(s:aE)(d:Nat)(f:Nat->Nat)(ins:List Nat):∀ (l:List (Nat×cc)) (j:Nat) {q:Nat×cc},q∈l->q.2.l_=true->cG∈(s5 s d f ins l j).map (·.2.1)
 | [],_,_,h,_=>by grind
 | p::l,j,q,h,bC=>by
  simp only[s5,aQ0,aRK];rcases List.mem_cons.1 h with rfl | h
  ·grind
  ·exact .inr (aaJ s d f ins l (j+1) h bC)
theorem aaK(g:Nat->z21'):∀ (l:List (Nat×cc)) (x:pD l) {b:Nat} {e:aa},(l.map (·.1)).Nodup->(b,cc.bU e)∈l->∃ m,eP (ha g l x) b=⟨0,.bU e m⟩
 | [],_,_,_,_,h=>by grind
 | p::l,x,b,e,aA,h=>by
  simp only[aQ0,List.nodup_cons]at aA;simp  [ha,eP];rcases List.mem_cons.1 h with rfl | h
  ·exact⟨_,if_pos rfl⟩
  ·rw[if_neg λk=>aA.1 (by grind)];exact aaK g l _ aA.2 h
theorem aqM{t u:cc}(h:t.Lc u=true){g g':Nat->z21'}{R uI:Type}(z:t.cons R)(oU:u.cons uI) :
  ((t.body g z).1.hr=true->(u.body g' oU).1.hr=true/\∀ k,(u.body g' oU).1.cg k=true)/\((t.body g z).1.iX=true->(u.body g' oU).1.iX=true/\∀ k,(u.body g' oU).1.cg k=true)/\(t.body g z).1.q4=false:=by
 cases t<;>cases u<;>first
  | exact Bool.noConfusion h
  | exact⟨λ_=>⟨rfl,λ_=>rfl⟩,λh=>Bool.noConfusion h,rfl⟩
  | exact⟨λh=>Bool.noConfusion h,λ_=>⟨rfl,λ_=>rfl⟩,rfl⟩
  | exact⟨λh=>Bool.noConfusion h,λh=>Bool.noConfusion h,rfl⟩
theorem yS:∀ (ts:List (Nat×cf)) {R:Type} (g:Nat->z21') (z:rk ts R) (i:Nat),ts.any (λp=>p.1 == i)=false->fw (eV g ts z).1 i=.undef
 | [],_,_,_,_,_=>rfl
 | p::ts,_,g,z,i,h=>by
  simp only[aRr,aQ5,beq_eq_false_iff_ne]at h;simp  [eV,fw];rw[if_neg (Ne.symm h.1)];exact yS ts g _ i h.2
theorem RW{P:Program}{H:Nat->b_}{kap:Nat->bL}{F:Nat->Prop}{w:World}:∀ (g:z10') {us aI:List Value},Ha g us aI->∀ (c:Nat->aN) (i:Nat),(∀ j,j<aI.length->bM P H kap F w (c (i+j)) (aI.getD j undef))->
  (s6 g c i).length=g.length/\us.length=g.length/\∀ j,j<g.length->bM P H kap F w ((s6 g c i).getD j .undef) (us.getD j undef)
 | [],[],aI,_,_,_,_=>⟨rfl,rfl,λj aM=>by grind⟩
 | [],_::_,_,h,_,_,_=>h.elim
 | none::g,[],_,h,_,_,_=>h.elim
 | some n::g,[],_,h,_,_,_=>h.elim
 | none::g,u::us,aI,h,c,i,ag=>by
  obtain⟨tX,rfl,h⟩:=h;obtain⟨E,M,al⟩:=RW g h c (i+1) λj aM=>by
   have:=ag (j+1) (by grind);rw[show i+(j+1)=i+1+j by omega]at this;simpa using this
  refine⟨by simp[s6,E],by grind,λj aM=>?_⟩;cases j with
  | zero=>simpa [s6]using ag 0 (by simp)
  | succ j=>grind [s6]
 | some n::g,u::us,aI,h,c,i,ag=>by
  obtain⟨cs,tX,rfl,aA,qj,rfl,h⟩:=h;obtain⟨E,M,al⟩:=RW g h c (i+n) λj aM=>by
   have:=ag (n+j) (by grind);rw[show i+(n+j)=i+n+j by omega]at this;have e:(cs.toList++tX).getD (n+j) undef=tX.getD j undef:=by
    grind
   rw[e]at this;omega
  refine⟨by simp[s6,E],by grind,λj aM=>?_⟩;cases j with
  | zero=>
   refine⟨cs.toList,by simp,by omega,λj aM=>?_⟩;grind
  | succ j=>grind [s6]
theorem aqN{P:Program}{H:Nat->b_}{kap:Nat->bL}{F:Nat->Prop}{w:World}{g:z10'}{v:Value}{aI:List Value}(h:LO g v aI){c:Nat->aN}(ag:∀ j,bM P H kap F w (c j) (aI.getD j undef)) :
  bM P H kap F w (Rr (s6 g c 0)) v:=by
 obtain⟨us,E,M,al⟩:=h;obtain⟨aO,_,b7⟩:=RW g al c 0 (λj _=>by simpa using ag j);subst M;generalize s6 g c 0=l at aO b7;unfold Rr;split
 ·grind
 ·have eM:us.length≠1:=λe=>by
   have:l.length=1:=by omega
   match l,this with
   | [x],_=>grind
  rw[if_neg eM];refine⟨us,rfl,by omega,λi G=>?_⟩;grind [h5]
section
variable {C:cJ} {s:aE} {a:Act} {w:World} {kap:Nat->bL} {F:Nat->Prop}
theorem bx.args(D:bx C s a w kap F){cV:List aN}{us:List Value}(aA:us.length<=fD)(ai:cV.length=us.length)(ag:∀ i,i<us.length->bM C.P s.ab kap F w (cV.getD i .undef) (us.getD i undef)) :
    bx { C with b3:=us.length,dm:=[],r:=none } (vO s cV) { tmps:=us.toArray,defers:=[] } w kap F:=
  { D with
    dY:=by simp,dm:=rfl,hJ:=aA
    b5:=λi=>by
      show bM C.P s.ab kap F w (if i=cd then s.aD cd else if i<cV.length then cV.getD i .undef else .undef) (us.toArray.getD i undef);split
      · have E:=D.b5 cd
        have M:a.tmps.getD cd undef=undef:=by
          have:=D.dY;have:=D.hJ;grind [cd,fD]
        grind [cd,fD]
      · split
        · simp_all
        · trivial
    bH:=D.bH
    e8:=λl aK ad n ae e=>D.e8 l aK ad n ae (by grind [vO])
    bU:=w6.b5 (C:={ C with b3:=us.length,dm:=[],r:=none }) (s:=s) D.bU rfl λl aK ad n ae e=>by grind [vO] }
def vS(C:cJ)(w:World)(F':Nat->Prop)(n:Nat)(own Y:Nat->Prop)(kf:(Nat->Option Nat)×(Nat->Option (bL×Nat))):cJ:=
 { C with et:=w,jE:=F',K0:=λr=>r<w.heap.size/\¬own r/\¬Y r,b3:=n,dm:=[],r:=none,kf:=kf.1,PX:=kf.2 }
structure Hc(C:cJ)(s:aE)(w:World)(kap:Nat->bL)(F:Nat->Prop)(sl:aN)(Y:Nat->Prop):Prop where
 e8:∀ l aK ad n ae,sl=.aS l aK ad n ae->(∃ I,C.cK=⟨l,aK,ad,I⟩)/\C.cK.j5 C.P/\C.cK.at aK n ae F Y w
 low:∀ r,Y r->r<w.heap.size/\¬F r/\¬C.K0 r
 own:∀ b,(s.ab b).body.cg (kap b)=true->¬Y (kap b).ab
 LR:sl=.undef->∀ r,¬Y r
 bU:∀ r,lk s.ab r->¬Y r
theorem bx.aqO(D:bx C s a w kap F){sl:aN}(h:∀ l aK ad n ae,sl=.aS l aK ad n ae->s.aD cd=.aS l aK ad n ae):∃ Y,Hc C s w kap F sl Y:=by
 by_cases ax:∃ l aK ad n ae,sl=.aS l aK ad n ae
 ·obtain⟨l,aK,ad,n,ae,e⟩:=ax;obtain⟨E,M,Y,al,a7,bR⟩:=D.e8 l aK ad n ae (h _ _ _ _ _ e);refine⟨Y,⟨λev nb gj kD lx a1=>?_,al,a7,λa1=>?_,λr ak=>((D.bU.n_ ak).1 _ _ _ _ _ (h _ _ _ _ _ e)).elim⟩⟩<;>grind
 ·exact⟨λ_=>False,⟨λl aK ad n ae e=>(ax ⟨l,aK,ad,n,ae,e⟩).elim,λ_ h=>h.elim,λ_ _ h=>h,λ_ _ h=>h,λ_ _ h=>h⟩⟩
theorem aqP{C1:cJ}{s1:aE}{cH:Act}{F':Nat->Prop}{b':List Nat}{f:Nat->Nat}{sh:eD}{A:sh.aq}{Y:Nat->Prop}{ids:List Nat}(jX:C1.P=C.P)(vx:C1.aW=C.aW)(xv:C1.dm=[])
  (gv:bx C1 (s1.cE b') cH w kap F') (ay:LJ C1 s1 cH w kap f F' sh A b') (jr:Hc C (s1.cE b') w kap F' ((sh.ae A).aD cd) Y)
  (aC:∀ b bk,b∈sh.r1->bk∈sh.r1->f b=f bk->b=bk) (hid:∀ b∈ids,fD<=b) (apX:f cG=cG) :
  bx (vS C w F' C1.b3 (λr=>(∃ b,((sh.ae A).ab b).body.cg (kap (f b))=true/\(kap (f b)).ab=r)\/lk (sh.ae A).ab r) Y (λb=>if b∈ids then some (kap (f b)).ab else none,λb=>if b∈ids/\Ar<=b then some (kap (f b),((sh.ae A).ab b).body.len) else none)) (sh.ae A) cH w (λb=>kap (f b)) F' where
 dY:=gv.dY
 dm:=gv.dm.trans xv
 b5:=λi=>by have:=ay.b5 i;rw[jX]at this;exact this
 bH:=λb=>by have:=ay.bH b;rw[jX]at this;exact this
 own:=λb U=>by
  have E:=gv.own (f b) (ay.xu U);exact⟨E.1,E.2.1,λh=>h.2.1 (.inl ⟨b,U,rfl⟩)⟩
 inj:=λb bk U dZ e=>aC b bk (ay.cg b U).2.2 (ay.cg bk dZ).2.2 (gv.inj _ _ (ay.xu U) (ay.xu dZ) e)
 du:=gv.du
 hT:=λr D=>.inl D
 iy:=λr D=>D
 iz:=λr D=>D.1
 e6:=λ_ _=>rfl
 size:=amY _
 eN:=dN.refl _
 hJ:=gv.hJ
 ll:=λb r h=>by
  grind [vS]
 iY:=λb r h _=>by
  grind [vS]
 ln:=λb k h=>by
  grind [vS]
 jF:=λb k h _ _=>by
  grind [vS]
 e8:=λl aK ad n ae e=>by
  obtain⟨E,M,al⟩:=jr.e8 l aK ad n ae e;exact⟨E,M,Y,λr D=>⟨(jr.low r D).1,(jr.low r D).2.1,λh=>h.2.2 D⟩,λb U=>jr.own _ (ay.xu U),al⟩
 bU:=λe m hm=>by
  rcases ay.bU cG e m hm with k | rfl
  ·have k':((s1.cE b').ab cG).body=.bU e m:=by
    grind [aE.cE,fP]
   obtain⟨fU,fW⟩:=gv.bU e m k';refine⟨fU,λid xs an=>?_⟩;obtain⟨mT,c6,cM,hU,lK,cv⟩:=fW id xs an;refine⟨λl aK ad n ae aH=>mT l aK ad n ae (ay.aS l aK ad n ae aH),c6,cM,λh=>h.2.1 (.inr ⟨e,m,xs,hm,an⟩),λb U=>lK _ (ay.xu U),?_⟩;rw[jX]at cv;exact cv
  simp
 j7:=by have:=gv.j7;rw[jX,vx]at this;exact this
 h4:=by have:=gv.h4;rw[jX]at this;exact this
structure aaL(s:aE)(kap:Nat->bL)(kf:(Nat->Option Nat)×(Nat->Option (bL×Nat)))(dE:List (Nat×ca))(cr:z8'):Prop where
 eH:(cr.map (·.1)).Nodup
 ej:(cr.map (·.2.1)).Nodup
 ez:s4 ∉ cr.map (·.2.1)
 aqQ:(s.ab s4).body=.ez
 aaM:∀ p∈cr,(p.2.1<fD/\(s.ab p.2.1).gen<p.2.2)\/
  (((eP dE p.1).body.hr=true->(s.ab p.2.1).body.hr=true/\kf.1 p.1=some (kap p.2.1).ab)/\((eP dE p.1).body.iX=true->(s.ab p.2.1).body.iX=true/\kf.1 p.1=some (kap p.2.1).ab)/\(eP dE p.1).body.q4=false/\
   ((p.2.2=(s.ab p.2.1).gen/\((eP dE p.1).body.gT=true->(s.ab p.2.1).body.gT=true/\(eP dE p.1).body.gU=(s.ab p.2.1).body.gU/\kf.2 p.1=some (kap p.2.1,(s.ab p.2.1).body.len)))\/p.2.2=(s.ab p.2.1).gen+1))
theorem aqR{F' own Y:Nat->Prop}{sl:aN}{n:Nat}{kf:(Nat->Option Nat)×(Nat->Option (bL×Nat))}{ins:List Nat}{a8:eD}{bn:a8.aq}{aI:List Value}{w':World}{pG:Nat->bL}{fX:Nat->Prop}
    (D:bx C s a w kap F') (jr:Hc C s w kap F' sl Y) (eJ:∀ r,own r->(∃ b,b∈ins/\(s.ab b).body.cg (kap b)=true/\(kap b).ab=r)\/lk s.ab r)
    (iZ:bx { vS C w F' n own Y kf with b3:=aI.length } (a8.ae bn) { tmps:=aI.toArray,defers:=[] } w' pG fX)
    {cr:z8'} (fm:aaL s kap kf (ha (gM cr) a8.bH (eV (gM cr) a8.b5 bn).2) cr)
    (Hd:∀ r,own r->lk s.ab r->cG∈cr.map (·.2.1)) (He:∀ p∈cr,p.2.1=cG->(p.1=cG/\∀ l aK ad n ae,s.aD cd≠.aS l aK ad n ae)\/(eP (ha (gM cr) a8.bH (eV (gM cr) a8.b5 bn).2) p.1).body.l_=false)
    (K7:(s.ab cG).body.l_=true->∀ l aK ad n ae,fw (eV (gM cr) a8.b5 bn).1 cd≠.aS l aK ad n ae)
    {H':Nat->b_} {kapn:Nat->bL} (Bl:∀ p∈cr,H' p.2.1=⟨p.2.2,(eP (ha (gM cr) a8.bH (eV (gM cr) a8.b5 bn).2) p.1).body⟩/\kapn p.2.1=pG p.1)
    (xn:∀ b,b ∉ cr.map (·.2.1)->kapn b=kap b/\(b∈ins->H' b=⟨(s.ab b).gen+1,.ez⟩)/\(b ∉ ins->H' b=s.ab b))
    {X:aN} (yT:X=fw (eV (gM cr) a8.b5 bn).1 cd\/X=.undef\/(X=s.aD cd/\sl=.undef)) :
    bx C ⟨λi=>if i=cd then X else s.aD i,H'⟩ a w' kapn fX/\
    ∀ i,bM C.P H' kapn fX w' (fw (eV (gM cr) a8.b5 bn).1 i) (aI.toArray.getD i undef):=by
  generalize s8:ha (gM cr) a8.bH (eV (gM cr) a8.b5 bn).2=dE at fm Bl He;have vL:∀ b,Bj (eP dE b).body ((a8.ae bn).ab b).body:=λb=>by
    rw[<-s8,RU (LP a8.b5 bn)];exact aaD a8.bH (eV dB a8.b5 bn).2 b
  have vT:r6 (a8.ae bn).ab H' pG kapn (gM cr):=by
    intro b;refine⟨RV _ b,?_⟩;by_cases U:b∈cr.map (·.1)
    · obtain⟨p,ak,rfl⟩:=List.mem_map.1 U
      rw[aaF fm.eH ak]
      obtain⟨E,M⟩:=Bl p ak
      rw[E,M]
      obtain⟨aO,aT,b7,gZ,rh,uJ,_⟩:=vL p.1
      exact⟨amY _,λ_=>⟨λh=>⟨aO ▸ h,rfl⟩,λh=>⟨aT ▸ h,rfl,b7,gZ⟩,λh=>⟨rh ▸ h,rfl⟩,λh=>⟨uJ ▸ h,rfl⟩⟩⟩
    · rw[aaG U]
      obtain⟨_,M,al⟩:=xn s4 fm.ez
      have ay:(H' s4).body=.ez:=by
        by_cases G:s4∈ins
        · grind
        · rw[al G];exact fm.aqQ
      refine⟨aQF _,λ_=>?_⟩
      rw[ay]
      exact⟨λh=>(by cases h),λh=>(by cases h),λh=>(by cases h),λh=>(by cases h)⟩
  have Hf:∀ b,(∃ p∈cr,p.2.1=b)\/b ∉ cr.map (·.2.1):=λb=>by
    grind
  have LS:∀ p∈cr,∀ r,kf.1 p.1=some r->(eP dE p.1).body.hr=true\/(eP dE p.1).body.iX=true->(pG p.1).ab=r:=λp ak r D h=>by
    obtain⟨aO,_,_,_,rh,_⟩:=vL p.1;exact iZ.iY p.1 r D (h.imp (λh=>aO ▸ h) (λh=>rh ▸ h))
  have aMG:∀ p∈cr,∀ k,kf.2 p.1=some k->(eP dE p.1).body.gT=true->pG p.1=k.1/\(eP dE p.1).body.len=k.2:=λp ak k aj h=>by
    obtain⟨_,aT,b7,_⟩:=vL p.1;obtain⟨E,M⟩:=iZ.jF p.1 k aj (RV _ _) (aT ▸ h);grind
  have ai:fN s.ab kap H' kapn:=by
    intro b;rcases Hf b with⟨p,ak,rfl⟩ | U
    · obtain⟨E,M⟩:=Bl p ak
      rw[E,M]
      rcases fm.aaM p ak with⟨_,h⟩ | ⟨hc,hm,hit,h⟩
      · exact⟨Nat.le_of_lt h,λe=>(by grind)⟩
      · rcases h with⟨h,gi⟩ | h
        · refine⟨aSb h.symm,λ_=>⟨λh=>⟨(hc h).1,LS p ak _ (hc h).2 (.inl h)⟩,λh=>?_,λh=>⟨(hm h).1,LS p ak _ (hm h).2 (.inr h)⟩,λh=>?_⟩⟩<;>grind
        · exact⟨by grind,λe=>(by grind)⟩
    · obtain⟨E,M,al⟩:=xn b U
      rw[E]
      by_cases G:b∈ins
      · rw[M G]
        exact⟨Nat.le_succ _,λe=>(by grind)⟩
      · rw[al G];exact t'.refl _ _
  have DK:=iZ.size;have bq:=iZ.iy;have kL:∀ r,r<w.heap.size->¬own r->¬Y r->w'.heap[r]?=w.heap[r]?:=λr E M al=>iZ.e6 r ⟨E,M,al⟩;have yU:=λr h=>aQt (D.iz r h) D.size;have RX:∀ r,own r->¬C.K0 r/\¬F' r:=λr h=>by
    rcases eJ r h with⟨b,_,E,rfl⟩ | ak
    · exact⟨(D.own b E).2.2,(D.own b E).2.1⟩
    · exact⟨(D.bU.n_ ak).2.2.2.1,(D.bU.n_ ak).2.2.1⟩
  have RY:∀ r,¬(r<w.heap.size/\¬own r/\¬Y r)->¬C.K0 r:=λr h aj=>h ⟨yU r aj,λau=>(RX r au).1 aj,λbf=>(jr.low r bf).2.2 aj⟩;have r7:dk F' w w':=⟨DK,λr h=>kL r (D.du r h) (λau=>(RX r au).2 h) λbf=>(jr.low r bf).2.1 h⟩
  have xl:∀ r,fX r->F' r\/¬(r<w.heap.size/\¬own r/\¬Y r):=iZ.hT;have r5:∀ b,b ∉ ins->(s.ab b).body.cg (kap b)=true->(kap b).ab<w.heap.size/\¬own (kap b).ab/\¬Y (kap b).ab:=λb U au=>by
    refine⟨(D.own b au).1,λh=>?_,jr.own b au⟩;rcases eJ _ h with⟨bk,E,M,al⟩ | ak
    · exact U (D.inj bk b M au al ▸ E)
    · exact (D.bU.n_ ak).2.2.2.2 b au rfl
  have yv:∀ b,(H' b).body.cg (kapn b)=true->(∃ p∈cr,p.2.1=b/\((a8.ae bn).ab p.1).body.cg (pG p.1)=true/\kapn b=pG p.1)\/(b ∉ cr.map (·.2.1)/\b ∉ ins/\kapn b=kap b/\(s.ab b).body.cg (kap b)=true):=λb U=>by
    rcases Hf b with⟨p,ak,rfl⟩ | aA
    · obtain⟨E,M⟩:=Bl p ak
      rw[E,M]at U
      exact .inl ⟨p,ak,rfl,by rw[<-(vL p.1).2.2.2.2.2.2];omega,M⟩
    · obtain⟨E,M,al⟩:=xn b aA
      by_cases G:b∈ins
      · rw[M G]at U;cases U
      grind
  have fH:∀ i,bM C.P H' kapn fX w' (fw (eV (gM cr) a8.b5 bn).1 i) (aI.toArray.getD i undef):=λi=>vT.b5 a8.b5 bn i (iZ.b5 i);refine⟨{ dY := D.dY, dm := D.dm, b5 := λi => ?_, bH := λb => ?_, own := λb U => ?_, inj := λb bk U dZ e => ?_, du := iZ.du, hT := λr h => ?_, iy := λr h => bq r (D.iy r h), iz := D.iz, e6 := λr h => ?_,size:=am5 D.size DK,eN:=D.eN.trans iZ.eN,hJ:=D.hJ,ll:=D.ll,iY:=λb r h hc=>?_,ln:=D.ln,jF:=λb k h aV aZ=>?_,e8:=λl aK ad m ae e=>?_,bU:=λe m hm=>?_,j7:=D.j7,h4:=iZ.h4 },fH⟩
  · show bM C.P H' kapn fX w' (if i=cd then X else s.aD i) _
    split
    · rename_i e
      subst e
      have hu:a.tmps.getD cd undef=undef:=by
        have:=D.dY;have:=D.hJ;rw[aQu,Array.getElem?_eq_none (by unfold cd fD at *;omega)];rfl
      rcases yT with rfl | rfl | ⟨rfl,_⟩
      · have Hg:aI.toArray.getD cd undef=undef:=by
          have:aI.length<=fD:=iZ.hJ;rw[aQu,Array.getElem?_eq_none (by simp;unfold cd fD at *;omega)];rfl
        grind
      · trivial
      · exact bM.later ai bq r7 (D.b5 cd)
    · exact bM.later ai bq r7 (D.b5 i)
  · show mA C.P H' kapn fX w' (kapn b) (H' b).body
    rcases Hf b with⟨p,ak,rfl⟩ | aA
    · obtain⟨E,M⟩:=Bl p ak
      rw[E,M,<-s8,RU (LP a8.b5 bn)]
      exact vT.bH a8.bH (eV dB a8.b5 bn).2 p.1 (iZ.bH p.1)
    · obtain⟨E,M,al⟩:=xn b aA
      by_cases G:b∈ins
      · rw[M G];trivial
      · have:=c1.lj     (D.bH b) ai bq r7 (by grind) E λau=>kL _ (r5 b G au).1 (r5 b G au).2.1 (r5 b G au).2.2
        exact this
  · rcases yv b U with⟨p,ak,_,E,M⟩ | ⟨_,E,M,al⟩
    · have:=iZ.own p.1 E
      rw[M]
      exact⟨this.1,this.2.1,RY _ this.2.2⟩
    · have a7:=D.own b al
      grind
  · rcases yv b U with⟨p,ak,rfl,E,M⟩ | ⟨_,E,M,al⟩<;>rcases yv bk dZ with⟨p',AE,rfl,Dh,uk⟩ | ⟨_,Dh,uk,aaN⟩
    · rw[M,uk]at e
      have:=iZ.inj _ _ E Dh e
      rw[Hb fm.eH ak AE this]
    · rw[M,uk]at e
      exact ((iZ.own p.1 E).2.2 (e ▸ r5 bk Dh aaN)).elim
    · rw[M,uk]at e
      exact ((iZ.own p'.1 Dh).2.2 (e ▸ r5 b E al)).elim
    · rw[M,uk]at e
      exact D.inj b bk al aaN e
  · rcases xl r h with h | h
    · exact D.hT r h
    grind
  · exact (kL r (yU r h) (λau=>(RX r au).1 h) λbf=>(jr.low r bf).2.2 h).trans (D.e6 r h)
  · have aH:=D.ll b r h
    rcases Hf b with⟨p,ak,rfl⟩ | aA
    · obtain⟨E,M⟩:=Bl p ak
      simp  [E]at hc
      rcases fm.aaM p ak with⟨al,_⟩ | ⟨aO,aT,_⟩
      · omega
      · rw[M]
        rcases hc with hc | hc
        · rw[LS p ak _ (aO hc).2 (.inl hc)]
          exact D.iY _ r h (.inl (aO hc).1)
        · rw[LS p ak _ (aT hc).2 (.inr hc)]
          exact D.iY _ r h (.inr (aT hc).1)
    · obtain⟨E,M,al⟩:=xn b aA
      by_cases G:b∈ins
      · simp  [M G]at hc
        rcases hc with hc | hc<;>cases hc
      · simp  [al G]at hc
        rw[E]
        exact D.iY b r h hc
  · have aV:(H' b).gen=0:=aV
    obtain⟨dT,eo⟩:=ai b
    obtain⟨cH,b1,ek,_⟩:=(eo (by omega)).2.1 aZ
    obtain⟨aO,aT⟩:=D.jF b k h (by omega) cH
    grind
  · rcases yT with rfl | rfl | ⟨rfl,aqS⟩
    · obtain⟨E,M,jk,al,a7,bR⟩:=iZ.e8 l aK ad m ae (RT a8.b5 bn cd e)
      refine⟨E,M,jk,λr bm=>⟨(al r bm).1,(al r bm).2.1,RY r (al r bm).2.2⟩,λb U bf=>?_,bR⟩
      rcases yv b U with⟨p,ak,rfl,aO,aT⟩ | ⟨_,aO,aT,b7⟩
      · grind
      · rw[aT]at bf;exact (al _ bf).2.2 (r5 b aO b7)
    · grind
    · obtain⟨E,M,jk,al,a7,bR⟩:=D.e8 l aK ad m ae e
      have aaO:∀ r,jk r->r<w.heap.size/\¬own r/\¬Y r:=λr bf=>⟨(al r bf).1,λau=>by
        rcases eJ r au with⟨b,_,aO,rfl⟩ | ak
        · exact a7 b aO bf
        · exact (D.bU.n_ ak).1 _ _ _ _ _ e,jr.LR aqS r⟩
      have F5:=λr aC bf=>(xl r aC).elim (al r bf).2.1 λh=>h (aaO r bf)
      refine⟨E,M,jk,λr bf=>⟨aQt (al r bf).1 DK,λaC=>F5 r aC bf,(al r bf).2.2⟩,λb U bf=>?_,M.Kj bR bq (λr aC=>?_) DK iZ.eN iZ.du F5⟩
      · rcases yv b U with⟨p,ak,rfl,aO,aT⟩ | ⟨_,aO,aT,b7⟩
        · rw[aT]at bf;exact (iZ.own _ aO).2.2 (aaO _ bf)
        grind
      · rcases aC with aC | aC
        · exact r7.2 r aC
        grind
  · have sU:(H' cG).body=.bU e m:=hm
    rcases Hf cG with⟨p,ak,RZ⟩ | aA
    · obtain⟨E,M⟩:=Bl p ak
      rw[RZ]at E
      rw[E]at sU
      have sU:(eP dE p.1).body=.bU e m:=sU
      rcases He p ak RZ with⟨Dq,aaP⟩ | ij
      · have di:((a8.ae bn).ab p.1).body=.bU e m:=by
          rw[<-s8,RU (LP a8.b5 bn)]at sU;exact aaE a8.bH _ p.1 sU
        rw[Dq]at di
        obtain⟨fU,fW⟩:=iZ.bU e m di
        refine⟨fU,λid xs an=>?_⟩
        obtain⟨mT,c6,cM,hU,lK,cv⟩:=fW id xs an
        refine⟨λl aK ad n ae aH=>?_,c6,cM,RY _ hU,λb U a1=>?_,cv⟩
        · have aH:X=.aS l aK ad n ae:=by simpa using aH
          rcases yT with rfl | rfl | ⟨rfl,_⟩
          · exact mT _ _ _ _ _ (RT a8.b5 bn cd aH)
          · cases aH
          · exact aaP _ _ _ _ _ aH
        · rcases yv b U with⟨p',AE,rfl,aO,aT⟩ | ⟨_,aO,aT,b7⟩
          · rw[aT]at a1;exact lK _ aO a1
          · rw[aT]at a1;exact hU (a1 ▸ r5 b aO b7)
      · rw[sU]at ij;cases ij
    · obtain⟨E,M,al⟩:=xn cG aA
      by_cases G:cG∈ins
      · grind
      · rw[al G]at sU
        obtain⟨fU,fW⟩:=D.bU e m sU
        refine⟨fU,λid xs an=>?_⟩
        obtain⟨mT,c6,cM,hU,lK,cv⟩:=fW id xs an
        have aaQ:lk s.ab id:=⟨e,m,xs,sU,an⟩
        have ij:=λau=>aA (Hd id au aaQ)
        have R0:=jr.bU id aaQ
        refine⟨λl aK ad n ae aH=>?_,aQt c6 DK,λaC=>(xl _ aC).elim cM λh=>h ⟨c6,ij,R0⟩,hU,λb U a1=>?_,cv.mono bq r7 (kL id c6 ij R0)⟩
        · rcases yT with rfl | rfl | ⟨rfl,_⟩
          · exact K7 (by rw[sU];rfl) _ _ _ _ _ aH
          · grind
          grind
        · rcases yv b U with⟨p',AE,rfl,aO,aT⟩ | ⟨_,aO,aT,b7⟩
          · rw[aT]at a1;exact (iZ.own _ aO).2.2 (a1 ▸ ⟨c6,ij,R0⟩)
          grind
end
end Go.Fer
namespace Go.Fer
open Go.RowKit
section
variable {C:cJ} {T:Nat->aa} {o:Oper} {s:aE}
variable {k:FuncId}{c:cO}{a:Act}{w:World}{kap:Nat->bL}{F:Nat->Prop}
theorem cW.fQ{P:Program}{aJ:dX}(aC:cW P aJ k c){C:cJ}{A:c.cC.aq}(h:bx C (c.cC.ae A) a w kap F)(E:C.P=P)(M:C.et=w)(al:C.r=none)(a7:C.dm=[])(bR:C.b3=c.k1)(er:C.aW=aJ)(ax:(c.sh A).fr) :
  Calls P k a.tmps w λe w'=>∃ v bn aI bV F',e=.returned v/\(c.sh A).a8 bn/\LO c.lu v aI/\bx { C with b3:=aI.length } (c.a8.ae bn) { tmps:=aI.toArray,defers:=[] } w' bV F':=
 aC.iv C a w kap F A E M al a7 bR er h ax
theorem aaR{C:cJ}{s:aE}{R1:Nat->aN}{cH:Act}{eH:Nat}{f:Nat->Nat}{A:c.cC.aq}{b':List Nat}{d m:Nat}{cr:z8'}
    (D:bx C s a w kap F) (gv:bx { C with b3:=eH,dm:=[],r:=none } ⟨R1,s.ab⟩ cH w kap F) (rn:R1 cd=s.aD cd)
    (qs:c.cC.DA f ⟨R1,s.ab⟩=some (A,b')) (R2:s5 (s.cE b') d f c.cC.r1 c.a8.bH 0=cr) (fg:G2 c f (s.cE b') cr d m=true) :
    ∃ (F' own Y:Nat->Prop) (kf:(Nat->Option Nat)×(Nat->Option (bL×Nat))),(∀ r,F r->F' r)/\bx C (s.cE b') a w kap F'/\(∀ r,own r->(∃ b,((s.cE b').ab b).body.cg (kap b)=true/\(kap b).ab=r)\/lk (s.cE b').ab r)/\Hc C (s.cE b') w kap F' ((c.cC.ae A).aD cd) Y/\(∀ l aK ad n ae,(c.cC.ae A).aD cd=.aS l aK ad n ae->s.aD cd=.aS l aK ad n ae)/\
      bx (vS C w F' eH own Y kf) (c.cC.ae A) cH w (λb=>kap (f b)) F'/\
      ∀ R3 jG,bx { C with et:=R3 } (s.cE b') a jG kap F'->Hc C (s.cE b') jG kap F' ((c.cC.ae A).aD cd) Y->∀ (bn:c.a8.aq) (aI:List Value) (w':World) (pG:Nat->bL) (fX:Nat->Prop),bx { vS C jG F' eH own Y kf with b3:=aI.length } (c.a8.ae bn) { tmps:=aI.toArray,defers:=[] } w' pG fX->
        ∃ kapn,bx { C with et:=R3 } (A8 (s.cE b') c f cr bn) a w' kapn fX/\∀ i,bM C.P (A8 (s.cE b') c f cr bn).ab kapn fX w' (fw (eV (gM cr) c.a8.b5 bn).1 i) (aI.toArray.getD i undef):=by
  simp only[G2,amX,am0,aQA]at fg;obtain⟨⟨⟨⟨⟨⟨⟨⟨⟨⟨⟨bI,c2⟩,c3⟩,c4⟩,c5⟩,pt⟩,rW⟩,yA⟩,c9⟩,R4⟩,_⟩,Hh,c12,aaS⟩:=fg;have c3:(c.cC.bH.map (·.1)).Nodup:=aQR c3;have c4:(c.cC.bH.map λp=>f p.1).Nodup:=aQR c4;have c5:(cr.map (·.1)).Nodup:=aQR c5;have pt:(cr.map (·.2.1)).Nodup:=aQR pt;have yA:s4 ∉ cr.map (·.2.1):=λh=>by
    rw[List.contains_iff_mem.2 h]at yA;cases yA
  have c9:((s.cE b').ab s4).body=.ez:=by
    split at c9
    · rename_i e;exact e
    · cases c9
  obtain⟨F',f1,gv,ay⟩:=eD.aaw qs gv;have bm : bx C (s.cE b') a w kap F' := { gv with
    dY:=D.dY,dm:=D.dm,hJ:=D.hJ,b5:=λi=>bM.later (Zc s b' kap) f1 (dk.refl _ _) (D.b5 i)
    bH:=gv.bH
    e8:=λl aK ad n ae e=>gv.e8 l aK ad n ae (by simpa [aE.cE,rn]using e)
    bU:=w6.b5 (C:={ C with b3:=eH,dm:=[],r:=none }) gv.bU rfl λl aK ad n ae e=>by simpa [aE.cE,rn]using e }
  obtain⟨Y,jr⟩:=bm.aqO (sl:=(c.cC.ae A).aD cd) λl aK ad n ae e=>by simpa [aE.cE,rn]using ay.aS l aK ad n ae e
  have hid:∀ b∈c.cC.bH.map (·.1),fD<=b:=λb U=>by simpa using List.all_eq_true.1 rW b U
  have Hi:∀ b,b∈c.cC.r1->∃ q∈c.cC.bH,q.1=b/\q.2.GX=true:=λb U=>by
    obtain⟨q,bC,e⟩:=List.mem_filterMap.1 U;split at e
    · cases e;exact⟨q,bC,rfl,by assumption⟩
    · cases e
  have Hj:=aqP (C:=C) (C1:={ C with b3:=eH,dm:=[],r:=none }) (ids:=c.cC.bH.map (·.1)) rfl rfl rfl gv ay ⟨jr.e8,jr.low,jr.own,jr.LR,jr.bU⟩ (λb bk U dZ e=>by
    obtain⟨q,bC,rfl,_⟩:=Hi b U;obtain⟨q',vz,rfl,_⟩:=Hi bk dZ;rw[Hb (k:=λp=>f p.1) c4 bC vz e]) hid c12
  have aaT:∀ r,lk (c.cC.ae A).ab r->lk (s.cE b').ab r:=λr ⟨e,m,xs,E,M⟩=>by
    rcases ay.bU cG e m E with k | rfl
    · rw[c12]at k
      have k':((s.cE b').ab cG).body=.bU e m:=by
        simp only[aE.cE];have k:(s.ab cG).body=.bU e m:=k;split
        · simp[fP,k]
        · exact k
      exact⟨e,m,xs,k',M⟩
    · cases M
  refine⟨F',_,Y,_,f1,bm,λr h=>h.imp (λ⟨b,U,e⟩=>⟨f b,ay.xu U,e⟩) (aaT r),jr,λl aK ad n ae e=>by simpa [aE.cE,rn]using ay.aS l aK ad n ae e,Hj,λR3 jG QL Hk bn aI w' pG fX iZ=>?_⟩;have s8:∀ (b:Nat) (q':Nat×cc),q'∈c.a8.bH->q'.1=b->b∈c.cC.r1->∀ (R:Type) (z:q'.2.cons R),((q'.2.body (gM cr) z).1.hr=true->((s.cE b').ab (f b)).body.hr=true)/\((q'.2.body (gM cr) z).1.iX=true->((s.cE b').ab (f b)).body.iX=true)/\(q'.2.body (gM cr) z).1.q4=false:=by
    intro b q' vz e U R z;obtain⟨q,bC,rfl,R5⟩:=Hi b U;have aj:=List.all_eq_true.1 (List.all_eq_true.1 R4 q' vz) q bC;rw[e,R5]at aj;simp only[beq_self_eq_true,Bool.and_self,aRc,aRj]at aj;rcases Bk dB c.cC.bH (eV dB c.cC.b5 A).2 q.1 with⟨_,M⟩ | ⟨cM,M,al,uI,oU,a7⟩
    · exact (M (aQ' bC)).elim
    · obtain rfl:=Hb c3 M bC al
      have a7:(c.cC.ae A).ab cM.1=⟨0,(cM.2.body dB oU).1⟩:=a7
      obtain⟨aO,aT,b7⟩:=aqM aj z oU (g:=gM cr) (g':=dB)
      have xt:=ay.DG cM.1
      refine⟨λhc=>?_,λhc=>?_,b7⟩
      · have bR:=ay.cg cM.1 (by rw[a7];exact (aO hc).2 _)
        simp only[aE.cE,if_neg bR.1]
        exact xt.2.1 (by rw[a7];exact (aO hc).1)
      · have bR:=ay.cg cM.1 (by rw[a7];exact (aT hc).2 _)
        simp only[aE.cE,if_neg bR.1]
        exact xt.2.2.2.1 (by rw[a7];exact (aT hc).1)
  have aaU:cr.map (·.1)=c.a8.bH.map (·.1):=by rw[<-R2];exact aaH ..
  have fm:aaL (s.cE b') kap (λb=>if b∈c.cC.bH.map (·.1) then some (kap (f b)).ab else none,λb=>if b∈c.cC.bH.map (·.1)/\Ar<=b then some (kap (f b),((c.cC.ae A).ab b).body.len) else none) (ha (gM cr) c.a8.bH (eV (gM cr) c.a8.b5 bn).2) cr:=by
    refine⟨c5,pt,yA,c9,λp ak=>?_⟩;rw[<-R2]at ak;rcases aaI _ _ _ _ _ _ ak with⟨E,M,t,al,a7⟩ | ⟨_,M,al,a7⟩ | ⟨E,e,M⟩
    · rw[M]
      have pB:p.1∈c.cC.bH.map (·.1):=by
        obtain⟨q,bC,e,_⟩:=Hi _ E;exact e ▸ aQ' bC
      rcases Bk (gM cr) c.a8.bH (eV (gM cr) c.a8.b5 bn).2 p.1 with⟨_,aT⟩ | ⟨q',aO,aT,R,z,b7⟩
      · exact (aT (aQ' (f:=(·.1)) al)).elim
      · rw[b7]
        obtain⟨dv,fc,ji⟩:=s8 p.1 q' aO aT E R z
        have:q'=(p.1,t):=Hb (aaU ▸ c5) aO al aT
        subst this
        refine .inr ⟨λh=>⟨dv h,if_pos pB⟩,λh=>⟨fc h,if_pos pB⟩,ji,a7.imp (λa7=>⟨a7.1,λgi=>?_⟩) id⟩
        rcases a7.2 with bR | ⟨aj,e,rfl⟩
        · have:=bR (gM cr) R z
          have gi:(t.body (gM cr) z).1.gT=true:=gi
          rw[this]at gi;cases gi
        · obtain⟨q,bC,LM,R5⟩:=Hi p.1 E
          have Bm:=List.all_eq_true.1 (List.all_eq_true.1 R4 _ aO) q bC
          rw[LM,R5]at Bm
          simp only[beq_self_eq_true,Bool.and_self,aRc,aRj]at Bm
          rcases Bk dB c.cC.bH (eV dB c.cC.b5 A).2 p.1 with⟨_,uk⟩ | ⟨cM,m2,m3,uI,oU,m4⟩
          · exact (uk (LM ▸ aQ' bC)).elim
          · obtain rfl:=Hb c3 m2 bC (m3.trans LM.symm)
            have m4:(c.cC.ae A).ab p.1=⟨0,(cM.2.body dB oU).1⟩:=m4
            obtain⟨c6,R6⟩:=cM
            have Bm:cc.Lc (.bo e) R6=true:=Bm
            obtain rfl:R6=.bo e:=by
              cases R6<;>first | (simp only[cc.Lc,am0]at Bm;rw[Bm]) | cases Bm
            have xt:=ay.DG p.1
            have aqT:((c.cC.ae A).ab p.1).body.gT=true:=by rw[m4];rfl
            obtain⟨cn,cN,fF⟩:=xt.2.2.1 aqT
            have bz:((s.cE b').ab (f p.1)).body.gT=true/\((s.cE b').ab (f p.1)).body.len=(s.ab (f p.1)).body.len/\((s.cE b').ab (f p.1)).body.gU=(s.ab (f p.1)).body.gU:=by
              simp only[aE.cE];split
              · rcases AG s.ab (s.ab (f p.1)) with a1 | ⟨_,_,an,a1⟩ | ⟨_,_,_,an,_⟩ | ⟨_,_,_,_,an,_,_⟩
                · rw[a1];exact⟨cn,rfl,rfl⟩
                · rw[a1,an];exact⟨rfl,rfl,rfl⟩
                · have cn:(s.ab (f p.1)).body.gT=true:=cn
                  rw[an]at cn;cases cn
                · have cn:(s.ab (f p.1)).body.gT=true:=cn
                  rw[an]at cn;cases cn
              · exact⟨cn,rfl,rfl⟩
            have cN:((c.cC.ae A).ab p.1).body.len=(s.ab (f p.1)).body.len:=cN
            have fF:((c.cC.ae A).ab p.1).body.gU=(s.ab (f p.1)).body.gU:=fF
            refine⟨bz.1,?_,?_⟩
            · rw[bz.2.2,<-fF,m4];rfl
            · rw[bz.2.1,<-cN]
              exact if_pos ⟨pB,aj⟩
    · refine .inl ⟨?_,by rw[M];exact aRe _⟩
      unfold fD
      omega
    · have R7:=aaK (gM cr) c.a8.bH (eV (gM cr) c.a8.b5 bn).2 (aaU ▸ c5) M
      refine .inr ?_
      rcases R7 with⟨dz,R7⟩
      rw[R7,E]
      exact⟨λh=>(by cases h),λh=>(by cases h),rfl,.inl ⟨rfl,λh=>(by cases h)⟩⟩
  simp only[aaf,amX,aQH,aQA,aQL,am0]at Hh;obtain⟨⟨Hh,Hl⟩,aqU⟩:=Hh;have aqV:∀ q∈c.a8.bH,q.2.l_=true->cG∈cr.map (·.2.1):=λq bC DL=>by
    rw[<-R2];exact aaJ _ _ _ _ _ _ bC DL
  have Hd:∀ r,(∃ b,((c.cC.ae A).ab b).body.cg (kap (f b))=true/\(kap (f b)).ab=r)\/lk (c.cC.ae A).ab r->lk (s.cE b').ab r->cG∈cr.map (·.2.1):=λr h ak=>by
    rcases h with⟨b,U,e⟩ | ⟨e,m,xs,E,M⟩
    · exact ((bm.bU.n_ ak).2.2.2.2 (f b) (ay.xu U) e).elim
    · rcases Bk dB c.cC.bH (eV dB c.cC.b5 A).2 cG with⟨k,_⟩ | ⟨q,aO,aT,R,z,b7⟩
      · have k:(c.cC.ae A).ab cG=_:=k
        rw[k]at E;cases E
      · have b7:(c.cC.ae A).ab cG=_:=b7
        rw[b7]at E
        have DL:q.2.l_=true:=by
          obtain⟨c6,cM⟩:=q;cases cM<;>first | rfl | cases E
        rcases Hl with Hl | Hl
        · have:=List.any_eq_false.1 Hl q aO
          rw[DL]at this;exact (this rfl).elim
        · obtain⟨q',vz,aqW⟩:=List.any_eq_true.1 Hl
          exact aqV q' vz aqW
  have He:∀ p∈cr,p.2.1=cG->(p.1=cG/\∀ l aK ad n ae,(s.cE b').aD cd≠.aS l aK ad n ae)\/(eP (ha (gM cr) c.a8.bH (eV (gM cr) c.a8.b5 bn).2) p.1).body.l_=false:=λp ak RZ=>by
    by_cases bC:∃ e,(p.1,cc.bU e)∈c.a8.bH
    · obtain⟨e,bC⟩:=bC
      refine .inl ⟨?_,λl aK ad n ae aH=>?_⟩
      · rcases Hh _ (aQY _ bC) with k | k
        · cases k
        · exact k
      · rcases aqU with k | k
        · have:=List.any_eq_false.1 k _ bC
          exact (this rfl).elim
        grind
    · refine .inr ?_
      rcases Bk (gM cr) c.a8.bH (eV (gM cr) c.a8.b5 bn).2 p.1 with⟨k,_⟩ | ⟨q',aO,aT,R,z,b7⟩
      · grind
      · rw[b7]
        obtain⟨c6,cM⟩:=q'
        cases cM with
        | bU e=>grind
        | _=>rfl
  have K7:((s.cE b').ab cG).body.l_=true->∀ l aK ad n ae,fw (eV (gM cr) c.a8.b5 bn).1 cd≠.aS l aK ad n ae:=λh l aK ad n ae aH=>by
    rcases (by simpa only [aQH,aQA]using aaS:_\/_) with k | k
    · grind
    grind [yS]
  obtain⟨qt,fH⟩:=aqR   (X:=if c.a8.b5.any (λp=>p.1 == cd) then fw (eV (gM cr) c.a8.b5 bn).1 cd else if c.cC.b5.any (λp=>p.1 == cd) then .undef else (s.cE b').aD cd)
    (H':=(A8 (s.cE b') c f cr bn).ab)
    (kapn:=λb=>match cr.find? (λp=>p.2.1 == b) with
      | some p=>pG p.1
      | none=>kap b) QL ⟨Hk.e8,Hk.low,Hk.own,Hk.LR,Hk.bU⟩ (λr h=>h.imp (λ⟨b,U,e⟩=>⟨f b,aQ' (ay.cg b U).2.2,ay.xu U,e⟩) (aaT r)) iZ fm Hd He K7
    (λp ak=>by simp  [A8,LQ   pt ak]) (λb U=>by
      grind [A8])
    (by
      split
      · simp
      · split
        · simp
        · rename_i M
          exact .inr (.inr ⟨rfl,yS c.cC.b5 dB A cd (Bool.eq_false_iff.2 M)⟩))
  exact⟨_,qt,fH⟩
variable {cK:iH}
theorem R8(bp:∀ i,o.dst=some i->i<C.b3)(qi:∀ c,o.op≠.defer c){cV:List aN}{cA:Prop}{n:Nat}(h:A9 s o c cV cA n=some cK)
  (ag:∀ A a w kap F,bx C s a w kap F->cA->(c.sh A).fr->∃ k,cW C.P C.aW k c/\∃ us:List Value,us.length=n/\cV.length=n/\(∀ i,i<n->bM C.P s.ab kap F w (cV.getD i .undef) (us.getD i undef))/\(execOp a.eval o).run C.P w=.ok (.enter k us.toArray) w)
  (aqX:vJ (bj C.aW s.aD) o->cA):rm C o s cK:=by
 unfold A9 at h;split at h
 ·rename_i A b' qs;split at h
  ·rename_i fg;cases h;refine⟨λa w Q K D be yV=>?_,λgs pF=>(by grind),aqX⟩;obtain⟨kap,F,D⟩:=D;have hlen:n=c.k1/\n<=fD:=by
    grind [G2]
   obtain⟨k,aC,us,nK,Hg,Bn,dA⟩:=ag A a w kap F D be yV.1;have fv:=D.args     (by omega) (by omega) λi G=>Bn i (by omega);obtain⟨F',own,Y,kf,_,bm,_,jr,_,Hj,R9⟩:=aaR D fv rfl qs rfl fg;have uK:=aC.fQ Hj rfl rfl rfl rfl (by show us.length=_;omega) rfl yV.1;refine yF qi dA uK λe w' ⟨v,bn,aI,pG,fX,he,gN,uL,iZ⟩=>⟨v,he,yV.2 bn gN _ _ ?_⟩
   obtain⟨kapn,qt,fH⟩:=R9 C.et w bm jr bn aI w' pG fX iZ;exact⟨_,fX,bx.set qt bp (aqN uL λj=>by simp_all)⟩
  grind
 grind
theorem R_(D:bx C s a w kap F){args:List Operand}(be:kk (args.map (bj C.aW s.aD))){i:Nat}(dM:i<args.length) :
  bM C.P s.ab kap F w ((vP C.aW s args).getD i .undef) ((args.map a.eval).getD i undef):=by
 have E:=uh be i (by grind);have bB:(vP C.aW s args).getD i .undef=(use (bj C.aW s.aD args[i])).2:=by grind [vP]
 grind [q7,lO]
variable {ds:Array TypeId}
theorem aqY(bp:∀ i,o.dst=some i->i<C.b3){k:Nat}{args:Array Operand}(au:o.op=.call { callee:=.value (.func k),args:=args,argTypes:=ds })(aC:cW C.P C.aW k c)
  (h:G3 C.aW s o args.toList c=some cK):rm C o s cK:=by
 obtain⟨args⟩:=args;refine R8 bp (by grind) h (λ_ a w kap F D be _=>⟨k,aC,args.map a.eval,by simp,by simp[vP],λi G=>R_ D be (by omega),?_⟩) λU=>Bi U λx an=>by grind [Op.operands,Call.operands]
 simp  [execOp,au,resolve,Act.eval,Deferred.ofValue,invoke];have:=aC.enter (args.map a.eval).toArray w;grind
theorem aqZ{Psi:Nat->Option gw}(dK:∀ k c,Psi k=some (.eE c)->cW C.P C.aW k c)(bp:∀ i,o.dst=some i->i<C.b3){t:Nat}{args:Array Operand}(au:o.op=.call { callee:=.value (.tmp t),args:=args,argTypes:=ds })
  (h:Lp C.aW Psi s o t args.toList=some cK):rm C o s cK:=by
 obtain⟨args⟩:=args;unfold Lp at h;split at h
 ·rename_i cA k n dS hu;have hu:use (bj C.aW s.aD (.tmp t))=(cA,.jl k n dS):=hu;split at h
  ·rename_i c hc;refine R8 bp (by grind) h (λ_ a w kap F D be _=>?_) λU=>⟨?_,Bi U λx an=>by grind [Op.operands,Call.operands]⟩
   ·have aC:=da D (.tmp t) hu be.1;obtain⟨aI,rU,jU,aq0⟩:=aC;refine⟨k,dK k c hc,args.map a.eval++aI,by grind,by simp[vP],λi G=>?_,?_⟩
    ·by_cases dM:i<args.length
     ·have:=R_ D be.2 dM;grind [vP]
     ·grind [vP]
    ·have ag:=rU;simp  [execOp,au,resolve,ag,Deferred.ofValue,invoke];have:=(dK k c hc).enter ((args.map a.eval++aI).toArray) w;grind
   ·have:=U (.tmp t) (by grind [Op.operands,Call.operands]);grind
  grind
 grind
theorem aq1(aU:ei C.P T)(bp:∀ i,o.dst=some i->i<C.b3){src dst:TypeId}{x:Operand}(au:o.op=.convert src dst x)(h:Lq C.aW T s o src dst x=some cK):rm C o s cK:=by
 unfold Lq at h;split at h
 ·cases h
 ·rename_i ij;split at h
  ·rename_i pr;obtain⟨aq2,aq3⟩:=pr;split at h
   ·rename_i cA b hu;split at h
    ·rename_i m hm;cases h;refine⟨λa w Q K D be yV=>?_,λgs pF=>(by cases pF),λU=>U.use (x:=x) (by rw[au];simp[Op.operands]) hu⟩;obtain⟨kap,F,D⟩:=D;rw[ib]at yV;obtain⟨ai,yV⟩:=yV;obtain⟨an,AH⟩:=lf.1 (da D x hu be);obtain⟨j,aM,iF,_⟩:=(aU.cb aq2 (by simp)).K3.sl;have qi:∀ c,o.op≠.defer c:=by grind
     have dA:=Lib.run_convert_string_bytes   w src dst j ⟨b.toArray⟩ (aU.cb aq3 (by simp)).str aM iF.int;have cQ:(ByteArray.mk b.toArray).size=b.length:=by rfl
     have GO:=Lib.bytesWorld_size w j ⟨b.toArray⟩;have oW:=Lib.bytesWorld_at_old w j ⟨b.toArray⟩;have mf:=Lib.bytesWorld_at_new w j ⟨b.toArray⟩;have rj:dN w (Lib.bytesWorld w j ⟨b.toArray⟩):=by
      unfold Lib.bytesWorld World.freeze;split<;>exact⟨rfl,rfl,rfl⟩
     have vI:(s.ab cG).body=.bU (.int .u8) m\/((s.ab cG).body=.ez/\m=[]):=by
      grind [aag,K4]
     have aMH:∀ id,id∈m.map (·.1)->id<w.heap.size:=λid hid=>by
      rcases vI with k | ⟨_,rfl⟩
      ·obtain⟨⟨fU,fW⟩,ak,rfl⟩:=List.mem_map.1 hid;exact ((D.bU _ m k).2 fU fW ak).2.1
      grind
     have kY:(Lib.bytesCells w j ⟨b.toArray⟩).size=b.length+(grownCap w b.length 0 j - b.length):=by
      grind [Lib.bytesCells]
     have aaV:∀ i (h:i<b.length),(Lib.bytesCells w j ⟨b.toArray⟩)[i]?=some (.int .u8 (b[i].toNat)):=λi h=>by
      grind [Lib.bytesCells]
     generalize Lib.bytesCells w j ⟨b.toArray⟩=cs at mf kY aaV;have gv:=by
      refine D.move   (fN.refl _ _) (λ_ h=>h) (λ_ h=>.inl h) (by omega) (λr h _=>oW r h) rj (λhe b=>c1.lj (D.bH b) (fN.refl _ _) (λ_ h=>h) he rfl rfl λau=>oW _ (D.own b au).1)
       (λb U=>⟨by have:=(D.own b U).1;omega,(D.own b U).2.1,.inl ⟨b,U,rfl⟩⟩) D.inj (λr h=>by have:=D.du r h;omega) (λ_ _ h=>⟨rfl,h⟩)
     have cY:=gv.apr vI   (xs:=df b) (λl aK ad n ae e=>ij l aK ad n ae e) (by omega) (λh=>by have:=D.du _ h;omega) (λh=>by have:=D.iz _ h;have:=D.size;omega)
      (λb U e=>by have:=(D.own b U).1;omega) (λh=>by grind) ⟨cs,j,_,_,mf,by grind [df,aa.size],.inr (by grind [df,aa.size]),λi G=>by
       have ea:i<b.length:=by grind [df]
       refine⟨[.int .u8 (b[i].toNat)],λq bC=>?_,?_⟩
       ·grind [aa.size]
       ·have e:(df b)[i]=(b[i].toNat):=by simp[df]
        rw[e];refine⟨rfl,?_⟩;have:=b[i].toNat_lt;have bQ:IntKind.u8.min=0:=by decide
        have aF:IntKind.u8.max=255:=by decide
        exact⟨by omega,by omega⟩⟩
     refine ig qi ?_ (yV.2 w.heap.size (λh=>by grind) _ _ ⟨kap,F,cY.set bp ((eh rfl).2 ⟨rfl,.inr ⟨0,grownCap w b.length 0 j,rfl,grownCap_ge w _ 0 j,?_,λ_=>by simp⟩⟩)⟩)
     ·simp_all[execOp]
     grind [grownCap_le_maxLen,maxLen]
    grind
   grind
  grind
theorem cW.vs{P:Program}{aJ:dX}(h:cW P aJ k c){sh:c.cC.aq->L c.a8.aq}(ax:∀ A,a_ (c.sh A) (sh A)):cW P aJ k { c with sh:=sh } where
 enter:=h.enter
 iv:=λC a w kap F A aF bB c7 bW gS kU D uu=>by
  obtain⟨aO,aT⟩:=ax A uu;exact (h.iv C a w kap F A aF bB c7 bW gS kU D aO).mono λe w' ⟨v,bn,aI,bV,F',E,M,al⟩=>⟨v,bn,aI,bV,F',E,aT bn M,al⟩
theorem aq4{Psi:Nat->Option gw}(bp:∀ i,o.dst=some i->i<C.b3){t:Nat}{args:Array Operand}(au:o.op=.call { callee:=.value (.tmp t),args:=args,argTypes:=ds })
  (dK:∀ c sh ids,Psi aah=some (.Ll c sh ids)->∀ k∈ids,cW C.P C.aW k { c with sh:=sh k }) {cK:iH} (h:Lr C.aW Psi s o t args.toList=some cK):rm C o s cK:=by
 unfold Lr at h;split at h
 ·rename_i n aA;split at h
  ·rename_i c sh ids hc;obtain⟨args⟩:=args;refine R8 bp (by grind) h (λA a w kap F D be ax=>?_) λU=>Bi U λx an=>by grind [Op.operands,Call.operands]
   obtain⟨⟨k,aj,rfl⟩,_⟩:=ax;have aC:=(dK c sh ids hc k aj).vs (sh:=(aai c sh ids (some k)).sh) λA h=>⟨h.2,λy bf=>bf⟩
   refine⟨k,aC,args.map a.eval,by simp,by simp[vP],λi G=>R_ D be (by omega),?_⟩;have aj:a.eval (.tmp t)=.func (.func k) #[] #[]:=?_
   ·simp  [execOp,au,resolve,aj,Deferred.ofValue,invoke];have:=aC.enter (args.map a.eval).toArray w;grind
   have ag:=D.b5 t;rw[aA]at ag;obtain⟨_,ag⟩:=(eh rfl).1 ag;exact (aQC ag).1
  grind
 grind
end
end Go.Fer
namespace Go.Fer
open Go.RowKit
section
variable {C:cJ} {o:Oper} {s:aE}
theorem bx.round{s:aE}{a:Act}{w w':World}{kap:Nat->bL}{F' fX Y LU:Nat->Prop}{l:Nat}{aK:aa}{ad:List aK.aq->Prop}{I}{ej:List aK.aq}{R':Bool}(D:bx C s a w kap F')(rp:C.cK=⟨l,aK,ad,I⟩)(b8:C.cK.j5 C.P)
    (bf:∀ r,Y r->r<w.heap.size/\¬F' r/\¬C.K0 r) (Sa:∀ b,(s.ab b).body.cg (kap b)=true->¬Y (kap b).ab)
    (dT:∀ r,F' r->fX r) (eo:∀ r,fX r->F' r\/Y r\/w.heap.size<=r) (ko:∀ r,fX r->r<w'.heap.size) (g4:∀ r,r<w.heap.size->¬Y r->w'.heap[r]?=w.heap[r]?)
    (rf:∀ r,LU r->(Y r\/w.heap.size<=r)/\r<w'.heap.size/\¬fX r) (xw:w.heap.size<=w'.heap.size) (g7:dN w w') (g8:I ej R' fX LU w') (qu:∀ r,¬lk s.ab r) :
    bx C ⟨λi=>if i=cd then .aS l aK ad ej R' else s.aD i,s.ab⟩ a w' kap fX:=by
  have r7:dk F' w w':=⟨xw,λr h=>g4 r (D.du r h) λSb=>(bf r Sb).2.1 h⟩
  have mf:∀ r,w.heap.size<=r->¬C.K0 r:=λr h aj=>by have:=D.iz r aj;have:=D.size;omega
  refine { dY := D.dY, dm := D.dm, b5 := λi => ?_, bH := λb => c1.lj (D.bH b) (fN.refl _ _) dT r7 rfl rfl λau => g4 _ (D.own b au).1 (Sa b au), own := λb U => ?_, inj := D.inj, du := ko, hT := λr h => ?_,iy:=λr h=>dT r (D.iy r h),iz:=D.iz,e6:=λr h=>?_,size:=am5 D.size xw,eN:=D.eN.trans g7,hJ:=D.hJ,ll:=D.ll,iY:=D.iY,ln:=D.ln,jF:=D.jF,e8:=λev nb gj kD lx e=>?_,bU:=λe m hm=>⟨(D.bU e m hm).1,λid xs an=>(qu id ⟨e,m,xs,hm,an⟩).elim⟩,j7:=D.j7,h4:=D.h4.mono dT r7 }
  · show bM C.P s.ab kap fX w' (if i=cd then .aS l aK ad ej R' else s.aD i) _
    split
    · trivial
    · exact bM.later (fN.refl _ _) dT r7 (D.b5 i)
  · have h:=D.own b U
    grind
  · rcases eo r h with h | h | h
    · exact D.hT r h
    · exact .inr (bf r h).2.2
    · exact .inr (mf r h)
  · exact (g4 r (aQt (D.iz r h) D.size) λk=>(bf r k).2.2 h).trans (D.e6 r h)
  · simp only[if_true]at e
    cases e
    refine⟨⟨I,rp⟩,b8,LU,λr h=>⟨(rf r h).2.1,(rf r h).2.2,?_⟩,λb U h=>?_,?_⟩
    · grind
    · rcases (rf _ h).1 with h | h
      · grind
      · exact absurd (D.own b U).1 (Nat.not_lt.2 h)
    · rw[rp];exact n9.C0.2 g8
theorem aq5(bp:∀ i,o.dst=some i->i<C.b3){t:Nat}{args:Array Operand}{ds:Array TypeId}(au:o.op=.call { callee:=.value (.tmp t),args:=args,argTypes:=ds }){cK:iH}
  (h:Ls C.aW s o t args.toList=some cK):rm C o s cK:=by
 obtain⟨args⟩:=args;unfold Ls at h;split at h
 ·rename_i ev l aK ad n ae Hm pA;split at h
  ·rename_i x b' an;cases h;refine⟨λa w Q K D be hm=>?_,λgs pF=>(by grind),λU=>Bi U λx an=>by rw[au];simp[Op.operands,Call.operands];simp_all⟩;obtain⟨kap,F,D⟩:=D;rw[ib]at hm;obtain⟨⟨rfl,rfl,LV⟩,hm⟩:=hm;obtain⟨F',f1,bm,f2⟩:=bx.mX (rZ _ an) D;have fv:gB C.P aK F' w (args.map a.eval) x:=by
    refine xf D.bH f1 aK an f2 (by simp) λi G ea=>?_;simp only[aRf];have dM:i<args.length:=by grind
    have E:=uh be i (by grind);have aF:(args.map (bj C.aW s.aD)).getD i .undef=bj C.aW s.aD args[i]:=by grind
    rw[show (List.map (bj C.aW s.aD) (⟨args⟩:Array Operand).toList)=args.map (bj C.aW s.aD) from rfl,aF]at E;exact q7 (lO D args[i]) E
   have ag:a.eval (.tmp t)=.func (.yield ev) #[] #[]:=by
    have:=lO D (.tmp t);have e:bj C.aW s.aD (.tmp t)=.iw ev:=Hm;rw[e]at this;exact this
   obtain⟨⟨I,rp⟩,b8,Y,bf,Sa,fk⟩:=bm.e8 ev aK ad n false pA;have aq6:n9.j5 C.P ⟨ev,aK,ad,I⟩:=rp ▸ b8;rw[rp]at fk;have fk:=n9.C0.1 fk;obtain⟨fn,tmps,assign,body,E,M⟩:=aq6.yield fk bm.du (λr h=>⟨(bf r h).1,(bf r h).2.1⟩) LV fv;have dA:(execOp a.eval o).run C.P w=.ok (.round ev fn tmps assign body) w:=by
    simp only[execOp,au,Sem.run_bind,resolve,ag,Deferred.ofValue,Sem.run_pure,Result.andThen_ok,invoke];grind
   refine⟨λ_ _=>trivial,?_⟩;rw[Db (by grind),dA,Oper.uponIn_round];refine⟨λax=>(by cases ax),?_⟩;have al:RoundIn (e0 C.r) 0 C.P ev fn tmps assign body w _:=M;refine al.mono λe w' ⟨b,fX,LU,he,dT,eo,ko,g4,rf,xw,g7,g8⟩=>?_;subst he;refine hm.2 b trivial _ _ ⟨kap,fX,bx.set ?_ bp (h2.2 rfl)⟩;exact bm.round rp b8 bf Sa dT eo ko g4 rf xw g7 g8 λr ak=>(bm.bU.n_ ak).1 _ _ _ _ _ pA
  grind
 grind
end
end Go.Fer
namespace Go.Fer
open Go.RowKit
section
variable {C:cJ} {T:Nat->aa} {bs:Nat->Option aQ} {s:aE} {res:eC}
theorem aaW{ms:Array MapEntry}{j:Nat}(aM:j<ms.size)(hu:∀ i (h:i<ms.size),ms[i].born=ms[j].born->i=j):ms.findIdx? (λe=>(e.born:Int) == (ms[j].born:Int))=some j:=by
 grind [Array.findIdx?_eq_some_iff_getElem]
theorem aq7(ms:Array MapEntry)(e:MapEntry)(f:MapEntry->MapEntry):(ms.push e).modify ms.size f=ms.push (f e):=by
 grind
theorem aq8(ms:Array MapEntry)(j:Nat)(f g:MapEntry->MapEntry):(ms.modify j f).modify j g=ms.modify j λe=>g (f e):=by
 grind
theorem DM{a:Act}{d:Nat}{v:Value}{x:Operand}(h:x≠.tmp d):(a.put (some d) v).eval x=a.eval x:=Act.eval_put λAv e=>by grind
theorem Hn{a:Act}{d:Nat}{v:Value}(h:d<a.tmps.size):(a.put (some d) v).eval (.tmp d)=v:=by
 simp[Act.put,Act.eval,h]
theorem aq9(aU:ei C.P T){kC gX nL lS:Oper}{d1 d2:Nat}{ty:TypeId}{m x y:Operand}(E:kC.op=.mapEntry ty m x)(t1:kC.dst=some d1)(M:gX.op=.extract (.tmp d1) 1)(bX:gX.dst=some d2)
  (al:nL.op=.entryStore ty m (.tmp d2) y) (cU:nL.dst=none) (iI:lS.op=.mapUpdate ty m x y) (aaX:lS.dst=none) (nc:m≠.tmp d1) (di:m≠.tmp d2) (Bo:y≠.tmp d1) (xx:y≠.tmp d2) (xd:d1<C.b3) (jo:d2<C.b3)
  (h:(iB C.aW T bs (bj C.aW s.aD) lS).run s.ab=some res) {a:Act} {w:World} {kap:Nat->bL} {F:Nat->Prop} {Q:Exit->Act->World->Prop} {K:Act->World->Prop} (D:bx C s a w kap F) (be:res.cA) (hc:res.c)
  (kL:∀ a' w',de C (((s.jI none res).set (some d1) .undef).set (some d2) .undef) a' w'->K a' w') :
  kC.wpIn (e0 C.r) 0 C.P a w (λcH ch=>gX.wpIn (e0 C.r) 0 C.P cH ch (λb1 dP=>nL.wpIn (e0 C.r) 0 C.P b1 dP K Q) Q) Q:=by
 have h:(cR C.aW T bs (bj C.aW s.aD) lS).run s.ab=some res:=by simpa only [iB,e4,iI]using h
 have sV:=QI aU aaX (.inl iI) h a w kap F Q D be hc;have aF:∀ c,kC.op≠.defer c:=by grind
 have bB:∀ c,gX.op≠.defer c:=by grind
 have c7:∀ c,nL.op≠.defer c:=by grind
 have aq_:∀ c,lS.op≠.defer c:=by grind
 simp  [cR,iI,vv]at h;split at h
 ·rename_i k v aH;obtain⟨nI,Dl,G,py,kn⟩:=(aU.cb aH (by simp)).mp;obtain⟨inf,o0,i1,i2,i3,i4,i5,i6⟩:=nF kn.nE;split at h
  ·rename_i Bp;split at h
   ·rename_i b g xh;simp only[aG.gf,amU,aG.run_bind,aG.gW,aG.dF]at h;obtain⟨⟨eS,sP⟩,an,⟨sW,lr⟩,bf,h⟩:=h;split at h
    ·rename_i aB;obtain⟨aB,Di⟩:=aB;split at h
     ·rename_i k' iA es U;simp  at h;obtain⟨ZD,rX,rfl⟩:=h;obtain⟨e,rfl⟩:=mU rX;cases e;obtain⟨F',f1,bm,f2⟩:=bx.mX ((pv an).append (pv bf)) D;have hm:bM C.P s.ab kap F w (use (bj C.aW s.aD m)).2 (a.eval m):=da D m rfl be.1;rw[xh]at hm;have m_:=hm.2 aB.symm (by rw[U];rfl);have xi:=oP D.bH f1 an f2.left (da D x rfl be.2.1);have sX:(s.cE (sP++lr)).ab b=s.ab b:=by simp  [aE.cE];grind
      have a6:=bm.bH b;unfold c1 at a6;rw[sX,U]at a6;obtain⟨ms,clk,hw,qm⟩:=a6;have gI:=by simpa [yz]using Bp
      have fg:=(GF (em:=false) k 10000 gI.1 (by omega)).1 py xi;have nJ:=qm.es;obtain⟨f,c6,cM⟩:=AR       Bp py xi nJ.1 (λj e p E M=>(nJ.2 j e p E M).1);have gh:(getObj (kap b).ab).run C.P w=.ok (.map ms clk) w:=by simp[getObj,Sem.run,hw]
      obtain⟨iz,QJ,QK,ZE⟩:=qm;have uM:d1<a.tmps.size:=by have:=D.dY;omega
      have dx:=(Array.getElem?_eq_some_iff.1 hw).1;have chain:∀ (ch dP:World) (u:Value) (n:Int),(execOp a.eval kC).run C.P w=.ok (.value (.tuple #[u,goInt n])) ch->(Instr.entryStore ty (.map (some (kap b).ab)) (goInt n) (a.eval y)).run C.P ch=.ok () dP->
        (execOp a.eval lS).run C.P w=.ok .skip dP->
        kC.wpIn (e0 C.r) 0 C.P a w (λcH ch=>gX.wpIn (e0 C.r) 0 C.P cH ch (λb1 dP=>nL.wpIn (e0 C.r) 0 C.P b1 dP K Q) Q) Q:=by
       intro ch dP u n cn cN aq';have hrel:=sV.2;rw[Db aq_,aq',Oper.uponIn_skip,aaX]at hrel;refine ig aF cn ?_;rw[t1];have ara:(a.put (some d1) (.tuple #[u,goInt n])).eval (.tmp d1)=.tuple #[u,goInt n]:=Hn uM;refine ig (v:=goInt n) (w':=ch) bB (by simp[execOp,M,ara,Instr.extract]) ?_;rw[bX];have arb:d2<(a.put (some d1) (.tuple #[u,goInt n])).tmps.size:=by have:=D.dY;simp[Act.put];omega
       have arc:((a.put (some d1) (.tuple #[u,goInt n])).put (some d2) (goInt n)).eval (.tmp d2)=goInt n:=Hn arb;have Sc:((a.put (some d1) (.tuple #[u,goInt n])).put (some d2) (goInt n)).eval m=.map (some (kap b).ab):=by rw[DM di,DM nc,m_]
       have ard:((a.put (some d1) (.tuple #[u,goInt n])).put (some d2) (goInt n)).eval y=a.eval y:=by rw[DM xx,DM Bo]
       refine Gl c7 (w':=dP) (by simp  [execOp,al,arc,Sc,ard,cN,Sem.run_pure]) ?_;rw[cU];refine kL _ _ ?_;obtain⟨bV,F',hrel⟩:=hrel;exact⟨bV,F',bx.set (bx.set   (av:=.undef) hrel (λi e=>by grind) trivial) (λi e=>by grind) trivial⟩
      rcases cM with⟨rfl,eM⟩ | ⟨j,e,p,dT,eo,ko,g4,rfl⟩
      ·refine chain { w with heap:=w.heap.setIfInBounds (kap b).ab (.map (ms.push { key:=a.eval x,val:=o0,born:=clk }) (clk+1)) } { w with heap:=w.heap.setIfInBounds (kap b).ab (.map (ms.push { key:=a.eval x,val:=a.eval y,born:=clk }) (clk+1)) } o0 clk ?_ ?_ ?_
       ·simp  [execOp,E,m_,Instr.mapEntry,ep G,gh,fg,c6,sR i1 i4,vG hw]
       ·have Sd:(getObj (kap b).ab).run C.P { w with heap:=w.heap.setIfInBounds (kap b).ab (.map (ms.push { key:=a.eval x,val:=o0,born:=clk }) (clk+1)) }=.ok (.map (ms.push { key:=a.eval x,val:=o0,born:=clk }) (clk+1)) { w with heap:=w.heap.setIfInBounds (kap b).ab (.map (ms.push { key:=a.eval x,val:=o0,born:=clk }) (clk+1)) }:=by simp[getObj,Sem.run,dx]
        have Se:(ms.push { key:=a.eval x,val:=o0,born:=clk }).findIdx? (λe=>e.born == (clk:Int))=some ms.size:=by
         have:=aaW (ms:=ms.push { key:=a.eval x,val:=o0,born:=clk }) (j:=ms.size) (by simp) λi G he=>by
          grind
         grind
        simp  [Instr.entryStore,Sd,goInt,asInt,asIntOf,Se];rw[vG (es:=ms.push { key:=a.eval x,val:=o0,born:=clk }) (clk:=clk+1) (by grind),aq7];simp
       ·simp  [execOp,iI,m_,Instr.mapUpdate,ep G,gh,fg,c6,vG hw]
      ·have aM:=(List.getElem?_eq_some_iff.1 eo).1;obtain⟨qo,ch,cn,cN,fF⟩:=QH C.P w e.key (a.eval x);have pz:ch.heap[(kap b).ab]?=some (.map ms clk):=by rcases fF with rfl | rfl<;>exact hw
       have oW:((ms[j]?).map (·.key)).getD (a.eval x)=e.key:=by
        grind
       have are:((ms[j]?).map (λx=>(x.born:Int))).getD 0=(ms[j].born):=by grind
       refine chain { ch with heap:=ch.heap.setIfInBounds (kap b).ab (.map (ms.modify j λe=>{ e with key:=qo }) clk) } { ch with heap:=ch.heap.setIfInBounds (kap b).ab (.map (ms.modify j λe=>{ e with key:=qo,val:=a.eval y }) clk) } e.val ms[j].born ?_ ?_ ?_
       ·simp  [execOp,E,m_,Instr.mapEntry,ep G,gh,fg,c6];rw[oW,cn];simp  [vG pz,are]
       ·have Sd:(getObj (kap b).ab).run C.P { ch with heap:=ch.heap.setIfInBounds (kap b).ab (.map (ms.modify j λe=>{ e with key:=qo }) clk) }=.ok (.map (ms.modify j λe=>{ e with key:=qo }) clk) { ch with heap:=ch.heap.setIfInBounds (kap b).ab (.map (ms.modify j λe=>{ e with key:=qo }) clk) }:=by grind [getObj,Sem.run]
        have Se:(ms.modify j λe=>{ e with key:=qo }).findIdx? (λe=>e.born == (ms[j].born:Int))=some j:=by
         have:=aaW (ms:=ms.modify j λe=>{ e with key:=qo }) (j:=j) (by grind) λi G he=>by
          grind
         grind
        simp  [Instr.entryStore,Sd,goInt,asInt,asIntOf,Se];rw[vG (es:=ms.modify j λe=>{ e with key:=qo }) (clk:=clk) (by grind),aq8];simp
       ·simp  [execOp,iI,m_,Instr.mapUpdate,ep G,gh,fg,c6];rw[oW,cn];simp  [vG pz]
     grind
    grind
   ·cases h
  ·cases h
 ·cases h
end
end Go.Fer
namespace Go.Fer
open Go.RowKit
structure Ho(P:Program)(k:FuncId)(c:DB):Prop where
 enter:∀ args w,(callFunc k args).run P w=.ok (.enter k args) w
 iv:∀ (l:Nat) (I:List c.aK.aq->Bool->(Nat->Prop)->(Nat->Prop)->World->Prop) (F Y:Nat->Prop) (w:World) (args:List Value) (x:c.ts.aq),gB P c.ts F w args x->c.pre x->n9.j5 P ⟨l,c.aK,λT=>T=c.seq x,I⟩->
  (∀ r,F r->r<w.heap.size)->pj P F w->(∀ r,Y r->r<w.heap.size/\¬F r)->I [] false F Y w->Calls P k (args++[Value.func (.yield l) #[] #[]]).toArray w λe w'=>
   ∃ v pre ae F' jk,e=.returned v/\(ae=false->pre=c.seq x)/\I pre ae F' jk w'/\(∀ r,F r->F' r)/\(∀ r,F' r->F r\/Y r\/w.heap.size<=r)/\(∀ r,F' r->r<w'.heap.size)/\
    (∀ r,r<w.heap.size->¬Y r->w'.heap[r]?=w.heap[r]?)/\(∀ r,jk r->(Y r\/w.heap.size<=r)/\r<w'.heap.size/\¬F' r)/\w.heap.size<=w'.heap.size/\dN w w'
def gw.j5(P:Program)(aJ:dX)(k:FuncId):gw->Prop
 | .dL c=>hI P k c.ts c.aS c.sh/\(c.Lj=true->∀ x,(c.sh x).GY)
 | .eE c=>cW P aJ k c
 | .cI c=>Ho P k c
 | .aab c=>hI P k c.ts c.aS c.sh/\F4 P k c.ts c.aS c.sh
 | .Ll c sh ids=>∀ k∈ids,cW P aJ k { c with sh:=sh k }
 | .mI c=>qf c.aS=true/\GC P k c
def pH(P:Program)(aJ:dX)(Psi:Nat->Option gw):Prop:=∀ k c,Psi k=some c->c.j5 P aJ k
section
variable {C:cJ} {T:Nat->aa} {bs:Nat->Option aQ} {Psi:Nat->Option gw} {s:aE} {o:Oper} {Q:Exit->Act->World->Prop} {ops:Array Oper}
theorem arf(dq:lP C.P bs)(dK:pH C.P C.aW Psi){k:Nat}{c:jN}(h:Rp bs Psi k=some c):hI C.P k c.ts c.aS c.sh:=by
 unfold Rp at h;split at h
 ·rename_i gr kG;cases h;have:=dK k _ kG;exact this.1
 ·grind
 ·obtain⟨f,aC,h⟩:=Option.bind_eq_some_iff.1 h;split at h
  ·grind
  ·cases h;exact (dq k f aC).1 (by grind)
variable {P:Program}{w:World}{ty:TypeId}{j:TypeId}
theorem arh(aM:P.underlying ty=some (.slice j))(q:Option Addr)(n cap d:Nat):(Op.equalIn (d+1) ty (.slice q n cap) (.slice none 0 0)).run P w=.ok q.isNone w:=by
 cases q<;>simp[Op.equalIn,ep aM]
theorem ari(op:BinOp)(t:TypeId)(x y:Operand)(q q':Option Addr)(n kD cap yE:Nat):(eqGuard op t x y (.slice q n cap) (.slice q' kD yE)).run P w=.ok () w:=by
 simp_all[eqGuard]
variable {x:Operand}
theorem aaY{y:Operand}(aM:P.underlying ty=some (.slice j))(q:Option Addr)(n cap:Nat) :
  (do eqGuard .eql ty x y (.slice q n cap) (.slice none 0 0);binOp .eql ty (.slice q n cap) (.slice none 0 0):Sem Value).run P w=.ok (.bool q.isNone) w/\(do eqGuard .neq ty x y (.slice q n cap) (.slice none 0 0);binOp .neq ty (.slice q n cap) (.slice none 0 0):Sem Value).run P w=.ok (.bool (!q.isNone)) w:=by
 simp_all[arh,ari,binOp,Op.equal,Op.maxDepth]
variable {cK:iH}
theorem arj(aU:ei C.P T)(bp:∀ i,o.dst=some i->i<C.b3){op:BinOp}{mW:TypeId}{y:Operand}(au:o.op=.binOp op ty x y mW)(h:G5 C.aW T s o op ty x y=some cK):rm C o s cK:=by
 have qi:∀ c,o.op≠.defer c:=by grind
 unfold G5 at h;split at h
 ·rename_i e aH ark;have dJ:=aU.cb aH (by simp);obtain⟨j,aM,_⟩:=dJ.sl;split at h
  ·rename_i xs l kl;have key:∀ (a:Act) (w:World) (kap:Nat->bL) (F:Nat->Prop),bx C s a w kap F->(use (bj C.aW s.aD x)).1->∃ b:Bool,(b=true->xs=[])/\(op=.eql->(execOp a.eval o).run C.P w=.ok (.value (.bool b)) w)/\(op=.neq->(execOp a.eval o).run C.P w=.ok (.value (.bool (!b))) w):=by
    intro a w kap F D be;have an:=Gq D kl (da D x rfl be);obtain⟨_,q,cap,aF,m1,m2,m3,_⟩:=(eh rfl).1 an;have bf:a.eval y=.slice none 0 0:=by
     have:=lO D y;rw[ark]at this;exact this
    refine⟨q.isNone,λbC=>?_,λsV=>?_,λsV=>?_⟩
    ·simp_all
    ·have D:=(aaY (w:=w) (x:=x) (y:=y) aM q xs.length cap).1;simp only[execOp,au,Sem.run_bind]at D ⊢;simp_all
    ·have D:=(aaY (w:=w) (x:=x) (y:=y) aM q xs.length cap).2;simp only[execOp,au,Sem.run_bind]at D ⊢;simp_all
   split at h
   ·cases h;refine⟨λa w Q K D be hm=>?_,λgs pF=>(by grind),λU=>U x (by grind [Op.operands])⟩;obtain⟨kap,F,D⟩:=D;obtain⟨b,dv,fc,_⟩:=key a w kap F D be;exact ig qi (fc rfl) (hm.2 b dv _ _ ⟨kap,F,bx.set D bp (h2.2 rfl)⟩)
   ·cases h;refine⟨λa w Q K D be hm=>?_,λgs pF=>(by grind),λU=>U x (by grind [Op.operands])⟩;obtain⟨kap,F,D⟩:=D;obtain⟨b,dv,_,fc⟩:=key a w kap F D be;exact ig qi (fc rfl) (hm.2 b dv _ _ ⟨kap,F,bx.set D bp (h2.2 rfl)⟩)
   grind
  grind
 grind
theorem Sf(aU:ei C.P T)(dq:lP C.P bs)(dK:pH C.P C.aW Psi)(bp:∀ i,o.dst=some i->i<C.b3)(h:uB C.aW T bs Psi s o=some cK):rm C o s cK:=by
 unfold uB at h;split at h
 ·rename_i c au;obtain⟨callee,args,ds⟩:=c;split at h
  ·rename_i f aC;subst aC;split at h
   ·split at h
    ·rename_i gr kG;exact aqY bp au (dK _ _ kG) h
    ·rename_i gr kG;have al:=dK _ _ kG;exact aqA bp au al.1 al.2 h
    ·split at h
     ·rename_i dL Sg;exact aqz bp au (arf dq dK Sg) h
     grind
   ·split at h
    ·grind [aqB]
    ·split at h
     ·rename_i r D;cases h;exact aq4 bp au (λc sh ids hc=>dK _ _ hc) D
     ·split at h
      ·rename_i r D;cases h;exact aqZ (λk c hc=>dK k _ hc) bp au D
      ·grind [aq5]
   grind
  grind
 ·grind [aqC]
 ·grind [aqG]
 ·grind [aqD]
 ·grind [arj]
 ·grind [aq1]
 grind
theorem aaZ(want b:Bool):((some b == some want:Bool))=K9 want b:=by cases want<;>cases b<;>rfl
variable {j:Nat}{a:Act}{d:Nat}
theorem aa0{vU:Oper}(E:ops[j]?=some vU)(M:vU.dst=some d){b:Bool}(h:a.tmps.getD d Go.undef=.bool b):yielded ops a.tmps j=some b:=by
 have:a.tmps[d]?=some (.bool b):=by
  rw[aQu]at h;cases he:a.tmps[d]? with
  | none=>rw[he]at h;cases h
  | some v=>grind
 grind [yielded]
theorem arl{vU:Oper}(E:ops[j]?=some vU)(M:vU.dst=some d)(h:a.tmps.getD d Go.undef=Go.undef):yielded ops a.tmps j=none:=by
 unfold yielded;rw[E];simp  [M];rw[aQu]at h;cases he:a.tmps[d]? with
 | none=>rfl
 | some v=>rw[he]at h;cases h;rfl
theorem LW{kap:Nat->bL}{F:Nat->Prop}(D:bx C s a w kap F){g:Option Bool}(h:mi s.aD ops o.guard=some g) :
  Region.wanted o (yielded ops a.tmps)=g.getD true:=by
 unfold Region.wanted;cases aB:o.guard with
 | none=>rw[aB]at h;cases h;rfl
 | some p=>
  rw[aB]at h;simp  [mi]at h ⊢;split at h
  ·rename_i vU aM;split at h
   ·rename_i d ay;have ax:=D.b5 d;split at h
    ·rename_i b U;cases h;rw[U]at ax;rw[aa0 aM ay (h2.1 ax),aaZ];rfl
    ·rename_i g' b U;cases h;rw[U]at ax;obtain⟨E,M⟩:=ax;cases g' with
     | true=>
      rw[aa0 aM ay (h2.1 (E rfl)),aaZ];simp
     | false=>
      grind [arl]
    grind
   grind
  grind
theorem arn{cA c:Prop}{ht vR:aN}{jG Ba:List (Nat×b_)}(aB:Lx o ht jG=some (Ba,vR))(h:(iB C.aW T bs (bj C.aW s.aD) o).run s.ab=some ⟨cA,c,ht,jG⟩) :
    (∀ a w,de C (s.jI o.dst ⟨cA,c,ht,jG⟩) a w->de C ((s.iC Ba).set o.dst vR) a w)/\(∀ a w kap F,bx C s a w kap F->∃ bV F',bx C (s.iC Ba) a w bV F'):=by
  unfold Lx at aB;split at aB
  · cases aB
    exact⟨λa w h=>h,λa w kap F h=>⟨kap,F,h⟩⟩
  · rename_i p ev
    split at aB
    · rename_i Sh first dS au
      cases aB
      refine⟨λa w h=>h,λa w kap F D=>?_⟩
      simp  [iB,e4,au,cR]at h
      split at h
      · split at h
        · split at h
          · simp only[aG.gf,amU,aG.run_bind,aG.dF]at h
            obtain⟨⟨y,l⟩,bf,he⟩:=h
            obtain⟨F',_,bm,_⟩:=bx.mX (rZ _ bf) D
            grind [ui]
          · split at h
            · simp only[aG.gf,amU,aG.run_bind,aG.dF]at h
              obtain⟨⟨y,l⟩,bf,he⟩:=h
              obtain⟨F',_,bm,_⟩:=bx.mX (rZ _ bf) D
              grind [ui]
            grind [c',aG.dF]
        · split at h
          · grind [c',aG.dF]
          · cases h
      · cases h
    · rename_i ty n bw au
      split at aB
      · rename_i bk g' e xs cm
        split at aB
        · rename_i aro
          obtain⟨⟨rfl,rfl⟩,_⟩:=aro
          cases aB
          obtain⟨b,⟨arp,ks⟩⟩:=p
          subst cm
          have mf:o.dst=some b/\arp=(s.ab b).gen+1:=by
            simp  [iB,e4,au,cR]at h;split at h
            · grind [aG.gf,Option.bind_eq_some_iff,aG.run_bind,ue]
            · cases h
          obtain⟨bp,rfl⟩:=mf
          refine⟨λa w hrel=>?_,λa w kap F D=>?_⟩
          · obtain⟨kap,F,D⟩:=hrel
            rw[bp]at D ⊢
            simp  [aE.jI]at D
            have an:(en (.slice e) (.own b ((s.ab b).gen+1))).run ((s.cq b ⟨(s.ab b).gen+1,.bo e xs⟩).set (some b) (.own b ((s.ab b).gen+1))).ab=some (xs,[b]):=by
              simp_all[en,l',eK,aE.set,aE.cq,fE,aa.gb]
            obtain⟨uy,f1,gv,f2⟩:=bx.mX (pv an) D
            have ax:=D.b5 b
            have ag:=oP (v:=a.tmps.getD b undef) D.bH f1 an f2 (by grind [aE.set])
            have fH:∀ i,i≠b->((s.cq b ⟨(s.ab b).gen+1,.bo e xs⟩).set (some b) (.own b ((s.ab b).gen+1))).aD i=s.aD i:=λi G=>by simp[aE.set,aE.cq,G]
            have cY:bx C ⟨λi=>if i=b then .val (.slice e) xs else s.aD i,(((s.cq b ⟨(s.ab b).gen+1,.bo e xs⟩).set (some b) (.own b ((s.ab b).gen+1))).cE [b]).ab⟩ a w kap uy:=
              { gv with
                dY:=gv.dY,dm:=gv.dm,bH:=gv.bH
                b5:=λi=>by
                  show bM _ _ _ _ _ (if i=b then .val (.slice e) xs else s.aD i) _;split
                  · rename_i G
                    subst G
                    exact ag
                  · rename_i G
                    rw[<-fH i G]
                    exact gv.b5 i
                e8:=λl aK ad n ae a1=>by
                  have a1:(if cd=b then aN.val (.slice e) xs else s.aD cd)=.aS l aK ad n ae:=a1;split at a1
                  · grind
                  · rename_i G
                    exact gv.e8 l aK ad n ae ((fH cd G).trans a1)
                bU:=gv.bU.b5 rfl λl aK ad n ae a1=>by
                  have a1:(if cd=b then aN.val (.slice e) xs else s.aD cd)=.aS l aK ad n ae:=a1;split at a1
                  · grind
                  · rename_i G
                    exact (fH cd G).trans a1 }
            refine⟨kap,uy,cY.vs ⟨λi=>.inl ?_,λi=>?_⟩⟩
            · rfl
            grind [aE.set,aE.iC,aE.cq,aE.cE,fP]
          · have aA:=RN D (b:=b) (e:=e)
            refine⟨_,F,aA.vs ⟨λi=>.inl rfl,λi=>?_⟩⟩
            grind [aE.iC,aE.cq]
        grind
      grind
    grind
theorem Bq{bet:Type}{b:Bool}{p:Prop}{m:L bet}{O:bet->Prop}(U:b=true->p):c8 (yN b p m) O<->p/\c8 m O:=by
 cases b with
 | true=>exact⟨λh=>⟨U rfl,h⟩,λh=>h.2⟩
 | false=>exact ib
def s9(ops:Array Oper)(s:aE)(e_:r2):Prop:=∀ p∈e_,∃ b a,s.aD p.1=.kB b a/\mi s.aD ops (some p.2)=some (some b)
theorem arq:yO ops j d=true<->d∈K_ ops (some (j,true)):=by
 have key:∀ (x:Option Oper),(match x with | some o=>(match o.dst with | some e=>e == d | none=>false) | none=>false)=true<->d∈(match x with | some o=>o.dst.toList | none=>[]):=by
  grind
 exact key _
theorem s9.i_{s':aE}{e_:r2}(h:s9 ops s e_)(ax:∀ i,o.dst≠some i->s'.aD i=s.aD i)
  (ay:∀ d k,o.dst=some d->o.guard=some k->∃ b a,s'.aD d=.kB b a/\mi s.aD ops (some k)=some (some b)):s9 ops s' (A_ ops e_ o):=by
 unfold A_;cases bp:o.dst with
 | none=>
  intro p ak;obtain⟨b,a,E,M⟩:=h p ak;grind [Q2]
 | some d=>
  have congr:∀ k,yO ops k.1 d=false->mi s'.aD ops (some k)=mi s.aD ops (some k):=λk aj=>Q2 λt aH=>ax t (by
   have:=arq.2 aH;grind)
  grind [s9]
section
variable {aJ:dX} {e_:r2} {gk:Option (Nat×Bool)}
theorem Hp(aU:s9 ops s e_)(aB:∀ k,gk=some k->mi s.aD ops (some k)=some (some true))(h:A' (bj aJ s.aD) e_ gk x=true):(use (bj aJ s.aD x)).1:=by
 unfold A' at h;rw[aQH]at h;rcases h with h | h
 ·grind [K1]
 ·split at h
  ·rename_i t k;obtain⟨p,ak,vr⟩:=List.any_eq_true.1 h;simp  at vr;obtain⟨rfl,E,M⟩:=vr;have vr:=Prod.ext E M;obtain⟨b,a,aO,aT⟩:=aU p ak;rw[vr,aB k rfl]at aT;cases aT;have e:bj aJ s.aD (.tmp p.1)=s.aD p.1:=rfl;rw[e,aO];rfl
  grind
theorem aa1(aU:s9 ops s e_)(aB:∀ k,gk=some k->mi s.aD ops (some k)=some (some true))(h:uD (bj aJ s.aD) e_ gk o=true):vJ (bj aJ s.aD) o:=
 λx an=>Hp aU aB (List.all_eq_true.1 h x an)
theorem aa2(aU:s9 ops s e_){c:Operand}{want:Bool}{vw:Prop}{kX:Bool}(hc:use (bj aJ s.aD c)=(vw,.val .bool kX))(Hq:vw)(h:Ly ops e_ c x want=true)(hw:K9 want kX=true):(use (bj aJ s.aD x)).1:=by
 unfold Ly at h;split at h
 ·obtain⟨p,ak,vr⟩:=List.any_eq_true.1 h;obtain⟨b,a,aO,aT⟩:=aU p ak;grind [bj,yO,mi,use]
 grind
theorem Si(aU:s9 ops s e_)(aB:∀ k,gk=some k->mi s.aD ops (some k)=some (some true))(h:G6 (bj aJ s.aD) ops e_ gk o=true):(iB aJ T bs (bj aJ s.aD) o).eu (mg λr=>r.cA):=by
 cases au:o.op with
 | pick c a b=>
  simp  [G6,au]at h;obtain⟨E,M,al⟩:=h;have bQ:iB aJ T bs (bj aJ s.aD) o=cR aJ T bs (bj aJ s.aD) o:=by grind [iB,e4]
  rw[bQ];unfold cR;rw[au];simp only;split
  ·rename_i vw kX pI;have Hq:vw:=by grind [Hp]
   split
   ·split
    ·refine .c' ⟨Hq,λag=>?_⟩;have:(use (bj aJ s.aD a)).1:=by
      rcases M with M | M
      ·grind [Hp]
      ·exact aa2 aU pI Hq M ag
     grind
    ·exact .mh
   ·split
    ·refine .c' ⟨Hq,λag=>?_⟩;have:(use (bj aJ s.aD b)).1:=by
      rcases al with al | al
      ·grind [Hp]
      ·exact aa2 aU pI Hq al (by subst ag;rfl)
     grind
    ·exact .mh
   ·exact .mh
  ·exact .mh
 | _=>
  simp only[G6,au]at h;exact Z2 (aa1 aU aB h)
theorem ars(aU:s9 ops s e_)(aB:∀ k,gk=some k->mi s.aD ops (some k)=some (some true)){cA c:Prop}{ht vR:aN}{jG Ba:List (Nat×b_)}(hw:Lx o ht jG=some (Ba,vR))(D:(iB aJ T bs (bj aJ s.aD) o).run s.ab=some ⟨cA,c,ht,jG⟩)
  (h:Rs (bj aJ s.aD) e_ gk o vR=true):(use vR).1:=by
 unfold Rs at h;rw[aQH]at h;rcases h with h | h
 ·grind [K1]
 ·split at h
  ·rename_i x au;simp  [iB,e4,au,cR]at D;obtain⟨_,_,rfl,rfl⟩:=D;obtain⟨_,rfl⟩:=hw;grind [Hp]
  grind
end
theorem aE.Hr{s:aE}{d:Option Nat}{v:aN}{i:Nat}(h:d≠some i):(s.set d v).aD i=s.aD i:=by
 cases d with
 | none=>rfl
 | some d=>grind [aE.set]
theorem aE.Sj{s:aE}{v:aN}:(s.set (some d) v).aD d=v:=by simp[aE.set]
theorem aE.Dv:∀ (l:List (Nat×b_)) (s:aE),(s.iC l).aD=s.aD
 | [],_=>rfl
 | p::l,s=>by
  have:=aE.Dv l (s.cq p.1 p.2);exact this
theorem art{aJ:dX}{gs:Bool->cK.af->aE}(h:uB aJ T bs Psi s o=some cK)(aB:cK.GZ=some gs):∀ g y,∃ v,(gs g y).aD=(s.set o.dst (.kB g v)).aD:=by
 have after:∀ (t:aa) (b':List Nat) (v:aN),(uA s o t b' v).aD=(s.set o.dst v).aD:=λt b' v=>by
  unfold uA;split
  ·rfl
  ·cases o.dst<;>rfl
 have dL:∀ {args:List Operand} {c:jN} {cK:iH} {gs:Bool->cK.af->aE},G0 aJ s o args c=some cK->cK.GZ=some gs->∀ g y,∃ v,(gs g y).aD=(s.set o.dst (.kB g v)).aD:=by
  intro args c cK gs h aB;unfold G0 at h;split at h
  ·cases h;cases aB;exact λg y=>⟨_,after _ _ _⟩
  grind
 have Lk:∀ {t:Nat} {args:List Operand} {cK:iH} {gs:Bool->cK.af->aE},G1 aJ s o t args=some cK->cK.GZ=some gs->∀ g y,∃ v,(gs g y).aD=(s.set o.dst (.kB g v)).aD:=by
  intro t args cK gs h aB;unfold G1 at h;split at h
  ·split at h
   ·cases h;cases aB;exact λg y=>⟨_,after _ _ _⟩
   grind
  grind
 unfold uB at h;split at h
 ·split at h
  ·split at h
   ·split at h
    ·grind [G3,A9]
    ·grind [Ln]
    ·split at h
     ·exact dL h aB
     grind
   ·split at h
    ·rename_i D;cases h;exact Lk D aB
    ·split at h
     ·rename_i D;unfold Lr G3 A9 at D;grind
     ·split at h
      ·rename_i D;unfold Lp A9 at D;grind
      ·grind [Ls]
   grind
  grind
 ·grind [Lt]
 ·unfold Lv at h;grind
 ·grind [Lw]
 ·grind [G5]
 ·grind [Lq]
 grind
theorem DN{t:Nat}(h:j8 x=some t):x=.tmp t:=by
 cases x<;>simp[j8]at h;rw[h]
theorem aa3{o gX nL lS:Oper}{d1 d2:Nat}(h:DC o gX nL=some (lS,d1,d2)):∃ ty m x y,o.op=.mapEntry ty m x/\o.dst=some d1/\gX.op=.extract (.tmp d1) 1/\gX.dst=some d2/\nL.op=.entryStore ty m (.tmp d2) y/\nL.dst=none/\
  lS.op=.mapUpdate ty m x y/\lS.dst=none/\m≠.tmp d1/\m≠.tmp d2/\y≠.tmp d1/\y≠.tmp d2/\o.guard=none/\gX.guard=none/\nL.guard=none:=by
 unfold DC at h;split at h
 ·split at h
  ·split at h
   ·split at h
    ·split at h
     ·rename_i hc;obtain⟨bI,c2,rfl,c4,c5,pt,rW,yA,c9,R4,Hh,c12,aaS⟩:=hc;obtain⟨rq,yW⟩:=Option.isSome_iff_exists.1 c4;have hL:=DN yW;grind [DN,Option.isNone_iff_eq_none]
     grind
    grind
   grind
  grind
 grind
theorem Sl{bet:Type}(aU:ei C.P T)(dq:lP C.P bs)(dK:pH C.P C.aW Psi)(ay:∀ o∈ops.toList,m' o C.b3=true){k:aE->L bet}{O:bet->Prop}
  (aj:∀ s' a' w',de C s' a' w'->c8 (k s') O->Q .normal a' w'):∀ (os:List Oper) (n:Nat) (e_:r2) (s:aE) (a:Act) (w:World),ops.toList.drop n=os->s9 ops s e_->de C s a w->c8 (oY C.aW T bs Psi ops os e_ s k) O->
   wpOpsIn (e0 C.r) 0 C.P ops Q (List.range' n os.length) a w:=by
 intro os;generalize hlen:os.length=len;induction len using Nat.strongRecOn generalizing os with
 | _ len aa4=>
 subst hlen;cases os with
 | nil=>
  intro n e_ s a w _ _ D hm;exact aj s a w D hm
 | cons o os=>
  have aR:=aa4 os.length (by simp) os rfl;intro n e_ s a w aA Br D hm;have dx:n<ops.toList.length:=by
   grind
  rw[aQy dx]at aA;injection aA with xd jo
  have gh:ops[n]?=some o:=by
   grind
  have pB:=xd ▸ amV dx;have LX:=ay o pB;have bp:∀ i,o.dst=some i->i<C.b3:=λi G=>by
   have:=LX;simp  [m']at this;grind
  simp  [aSd,wpOpsIn,gh];obtain⟨kap,F,hb⟩:=D;unfold oY at hm;split at hm
  ·rename_i lS d1 d2 s_;cases os with
   | nil=>exact hm.1.elim
   | cons gX os=>
    cases os with
    | nil=>exact hm.1.elim
    | cons nL os=>
     simp  at hm;split at hm
     ·rename_i res gY;obtain⟨ty,m,x,y,f1,f2,f3,f4,f5,f6,f7,f8,f9,f10,f11,f12,dT,eo,ko⟩:=aa3 s_;have aa5:=jo;have KM:n+1<ops.toList.length:=by
       grind
      rw[aQy KM]at aa5;injection aa5 with aMI aa6
      have aru:n+2<ops.toList.length:=by
       grind
      rw[aQy aru]at aa6;injection aa6 with aMJ arv
      have aMK:ops[n+1]?=some gX:=by
       grind
      have Sm:d2<C.b3:=by
       grind [List.getElem_mem,m']
      rw[ib,ib]at hm;have ch:Region.wanted o (yielded ops a.tmps)=true:=by grind [Region.wanted]
      have dP:∀ a':Act,Region.wanted gX (yielded ops a'.tmps)=true:=λa'=>by grind [Region.wanted]
      have hM:∀ a':Act,Region.wanted nL (yielded ops a'.tmps)=true:=λa'=>by grind [Region.wanted]
      have:=aq9 (Q:=Q)   aU f1 f2 f3 f4 f5 f6 f7 f8 f9 f10 f11 f12 (bp d1 f2) Sm gY hb hm.1 hm.2.1
       λa' w' bm=>aa4 os.length (by grind) os rfl (n+3) [] _ a' w' arv (λp ak=>by grind) bm hm.2.2
      simp  [aSd,wpOpsIn];grind
     ·exact hm.1.elim
  split at hm
  ·exact hm.1.elim
  ·rename_i aB;have aML:o.guard=none:=by
    cases h:o.guard with
    | none=>rfl
    | some p=>
     grind [mi]
   rw[LW hb aB];split at hm
   ·rename_i res gY;rw[Bq λU=>(Si Br   (λk aj=>by grind) U).run s.ab res gY,Bq λU=>(GR U).run s.ab res gY]at hm;refine Oper.wpIn_mono (λa' w' bm=>aR (n+1) _ _ a' w' jo (Br.i_ (λi G=>?_) λd k _ aj=>by grind) bm hm.2.2) (Dr aU dq LX gY a w kap F Q hb hm.1 hm.2.1);grind [aE.jI,aE.Hr,aE.Dv]
   ·split at hm
    ·rename_i cK rp;obtain⟨fU,fW,mB⟩:=Sf aU dq dK bp rp;rw[Bq λU=>mB (QT U),fS]at hm;exact fU a w Q _ ⟨kap,F,hb⟩ hm.1 (hm.2.mono λy bf a' w' bm=>aR (n+1) _ _ a' w' jo (λp ak=>by grind) bm bf)
    ·exact hm.1.elim
  ·rename_i g aB;have LY:∀ k,o.guard=some k->g=true->mi s.aD ops (some k)=some (some true):=λk aj aH=>by grind
   rw[LW hb aB];split at hm
   ·rename_i cA c arw arx gY;split at hm
    ·rename_i jG ht yX;obtain⟨ary,arz⟩:=arn yX gY;rw[Bq λU=>by
      simp  at U;exact λHs=>⟨(Si Br (λk aj=>LY k aj Hs) U.1).run s.ab _ gY,(GR U.2.1).run s.ab _ gY,ars Br (λk aj=>LY k aj Hs) yX gY U.2.2⟩]at hm
     have Ht:s9 ops ((s.iC jG).set o.dst (.kB g (use ht).2)) (A_ ops e_ o):=Br.i_ (λi G=>by rw[aE.Hr G,aE.Dv]) λd k ay aj=>⟨g,(use ht).2,by rw[ay,aE.Sj],by grind⟩
     cases g with
     | true=>
      obtain⟨E,M,al⟩:=hm.1 rfl;refine Oper.wpIn_mono (λa' w' bm=>aR (n+1) _ _ a' w' jo Ht (de.RO   (ary a' w' bm) bp λkap F v ag=>⟨λ_=>q7 ag al,λh=>(by grind)⟩) hm.2) (Dr aU dq LX gY a w kap F Q hb E M)
     | false=>
      refine⟨λ_ _=>trivial,aR (n+1) _ _ _ w jo Ht ?_ hm.2⟩;obtain⟨bV,F',arA⟩:=arz a w kap F hb;exact⟨bV,F',arA.set   bp ⟨λh=>(by grind),λ_=>rfl⟩⟩
    ·cases g with
     | true=>
      simp  at hm ⊢;rw[ib,ib]at hm;exact Oper.wpIn_mono (λa' w' bm=>aR (n+1) _ _ a' w' jo (λp ak=>by grind) bm hm.2.2) (Dr aU dq LX gY a w kap F Q hb hm.1 hm.2.1)
     | false=>
      exact⟨λ_ _=>trivial,aR (n+1) _ _ _ w jo (λp ak=>by grind) ⟨kap,F,hb.set (av:=.kB false (aak arx (use arw).2)) bp ⟨λh=>(by grind),λ_=>rfl⟩⟩ hm⟩
   ·split at hm
    ·rename_i cK rp;obtain⟨fU,fW,mB⟩:=Sf aU dq dK bp rp;split at hm
     ·rename_i gs pF;obtain⟨c6,cM⟩:=fW gs pF;rw[Bq λU Hs=>mB (aa1 Br (λk aj=>LY k aj Hs) U),fS]at hm;have Ht:∀ y,s9 ops (gs g y) (A_ ops e_ o):=λy=>by
       obtain⟨v,ag⟩:=art rp pF g y;exact Br.i_ (λi G=>by rw[ag,aE.Hr G]) λd k ay aj=>⟨g,v,by grind [aE.Sj],by grind⟩
      cases g with
      | true=>
       exact fU a w Q _ ⟨kap,F,hb⟩ (hm.1 rfl) (hm.2.mono λy bf a' w' bm=>aR (n+1) _ _ a' w' jo (Ht y) (c6 y a' w' bm) bf)
      | false=>
       exact⟨λ_ _=>trivial,aR (n+1) _ _ _ w jo (Ht cK.d) (cM a w ⟨kap,F,hb⟩) (by
        have h:=hm.2;exact h.2 cK.d rfl)⟩
     ·cases g with
      | true=>
       simp  at hm ⊢;rw[ib,fS]at hm;exact fU a w Q _ ⟨kap,F,hb⟩ hm.1 (hm.2.mono λy bf a' w' bm=>aR (n+1) _ _ a' w' jo (λp ak=>by grind) bm bf)
      | false=>
       exact⟨λ_ _=>trivial,aR (n+1) _ _ _ w jo (λp ak=>by grind) ⟨kap,F,hb.set (av:=.kB false (use ((cK.ae cK.d).aD (o.dst.getD 0))).2) bp ⟨λh=>(by grind),λ_=>rfl⟩⟩ hm⟩
    ·exact hm.1.elim
end
end Go.Fer
namespace Go.Fer
open Go.RowKit
section
variable {C:cJ} {T:Nat->aa} {bs:Nat->Option aQ} {s:aE} {res:eC}
variable {P:Program}
theorem arB:∀ (t:aa),t.oO=true->∀ {F F':Nat->Prop} {w w':World} {cs:List Value} {x:t.aq},cw P t F w cs x->cw P t F' w' cs x:=by
 intro t;induction t with
 | bool=>intro _ F F' w w' cs x h;exact h
 | int k=>intro _ F F' w w' cs x h;exact h
 | str=>intro _ F F' w w' cs x h;exact h
 | dc=>intro hc;cases hc
 | ae t aR=>intro hc F F' w w' cs x h;exact aR hc h
 | aw a b hp gq=>
  grind [aa.oO,cw]
 | slice e aR=>intro hc;cases hc
 | array n e aR=>intro hc;cases hc
 | bP e aR=>intro hc;cases hc
 | map k v Ai Aj=>intro hc;cases hc
 | fn a b hp gq=>intro hc;cases hc
 | cI a aR=>intro hc;cases hc
 | eY=>intro hc;cases hc
 | cP e aR=>intro hc;cases hc
theorem aa7{t:aa}(h:t.oO=true){F F':Nat->Prop}{w w':World}{v:Value}{x:t.aq}(ag:ft P t F w v x):ft P t F' w' v x:=⟨ag.1,arB t h ag.2⟩
theorem LZ(a:Act){i j:Nat}(h:i≠j)(v u:Value):(a.put (some i) v).put (some j) u=(a.put (some j) u).put (some i) v:=by
 simp  [Act.put];grind
theorem L0{ty nI Dl:TypeId}(G:P.underlying ty=some (.map nI Dl)){r:Nat}{ms:Array MapEntry}{clk:Nat}{w:World}(hw:w.heap[r]?=some (.map ms clk)){key u:Value}{f:Option (Nat×Value)}
  (fg:(Instr.checkKey ms.isEmpty 10000 nI key).run P w=.ok () w) (aC:(Instr.findKey nI key ms.toList).run P w=.ok f w) (hu:(∃ i,f=some (i,u))\/(f=none/\(zeroValue Dl).run P w=.ok u w)) :
  (Instr.lookup ty (.map (some r)) key false).run P w=.ok u w:=by
 have gh:(getObj r).run P w=.ok (.map ms clk) w:=by grind [getObj,Sem.run]
 rcases hu with⟨i,rfl⟩ | ⟨rfl,bz⟩
 ·simp_all[Instr.lookup,ep]
 simp_all[Instr.lookup,ep]
theorem arC(aU:ei C.P T){ik jO lS:Oper}{ty:TypeId}{m x y:Operand}(iJ:ik.op=.lookup ty m x false)(nJ:jO.op=.mapEntry ty m x)(iI:lS.op=.mapUpdate ty m x y){s2:aE}(xe:s2.ab=s.ab)
  (di:bj C.aW s2.aD m=bj C.aW s.aD m) (AH:bj C.aW s2.aD x=bj C.aW s.aD x) (h:(iB C.aW T bs (bj C.aW s2.aD) lS).run s2.ab=some res)
  {a:Act} {w:World} {kap:Nat->bL} {F:Nat->Prop} (D:bx C s a w kap F) (Sn:(use (bj C.aW s.aD m)).1) (Sp:(use (bj C.aW s.aD x)).1) :
  ∃ u n wE,∀ a':Act,a'.eval m=a.eval m->a'.eval x=a.eval x->
   (execOp a'.eval ik).run C.P w=.ok (.value u) w/\(execOp a'.eval ik).run C.P wE=.ok (.value u) wE/\(execOp a'.eval jO).run C.P w=.ok (.value (.tuple #[u,goInt n])) wE:=by
 simp only[iB,e4,iI,cR,vv,di,AH,xe]at h;split at h
 ·rename_i k v aH;obtain⟨nI,Dl,G,py,kn⟩:=(aU.cb aH (by simp)).mp;obtain⟨inf,o0,i1,i2,i3,i4,i5,i6⟩:=nF kn.nE;split at h
  ·rename_i Bp;split at h
   ·rename_i b g xh;simp only[aG.gf,amU,aG.run_bind,aG.gW,aG.dF]at h;obtain⟨⟨eS,sP⟩,an,⟨sW,lr⟩,bf,h⟩:=h;split at h
    ·rename_i aB;obtain⟨aB,_⟩:=aB;split at h
     ·rename_i k' iA es U;simp only[aQX]at h;obtain⟨ZD,rX,rfl⟩:=h;obtain⟨e,rfl⟩:=mU rX;cases e;have hm:bM C.P s.ab kap F w (use (bj C.aW s.aD m)).2 (a.eval m):=da D m rfl Sn;rw[xh]at hm;have m_:=hm.2 aB.symm (by rw[U];rfl);have gI:k.oO=true/\k.nG<=100:=by simpa [yz]using Bp
      have xi:=Gq D an (da D x rfl Sp);have L1:∀ (F':Nat->Prop) w',ft C.P k F' w' (a.eval x) eS:=λF' w'=>aa7 gI.1 xi;have a6:=D.bH b;unfold c1 at a6;rw[U]at a6;obtain⟨ms,clk,hw,qm⟩:=a6;have fg:∀ em w',(Instr.checkKey em 10000 nI (a.eval x)).run C.P w'=.ok () w':=λem w'=>(GF (em:=em) (F:=λ_=>True) k 10000 gI.1 (by omega)).1 py (L1 _ w');have aa8:=qm.es;have arD:∀ (j:Nat) (e:MapEntry) (p:k.aq×v.aq),ms.toList[j]?=some e->es[j]?=some p->∀ (F':Nat->Prop) w',ft C.P k F' w' e.key p.1:=λj e p E M F' w'=>aa7 gI.1 (aa8.2 j e p E M).1;obtain⟨f,c6,cM⟩:=AR (F:=λ_=>True) (w:=w) (bet:=v.aq) (xs:=es) (es:=ms.toList) Bp py (L1 _ w) aa8.1 (λj e p E M=>arD j e p E M _ w);have gh:(getObj (kap b).ab).run C.P w=.ok (.map ms clk) w:=by simp[getObj,Sem.run,hw]
      obtain⟨iz,QJ,QK,ZE⟩:=qm;have dx:(kap b).ab<w.heap.size:=(Array.getElem?_eq_some_iff.1 hw).1;have bz:∀ w',(zeroValue Dl).run C.P w'=.ok o0 w':=λw'=>sR i1 i4;have L2:∀ (a':Act) (w':World) (u:Value),a'.eval m=a.eval m->a'.eval x=a.eval x->(Instr.lookup ty (.map (some (kap b).ab)) (a.eval x) false).run C.P w'=.ok u w'->(execOp a'.eval ik).run C.P w'=.ok (.value u) w':=by
       intro a' w' u aF bB bm;simp only[execOp,iJ,aF,bB,m_,Sem.run_bind,bm,Result.andThen_ok,Sem.run_pure]
      have aMM:∀ q:k.aq,jm k eS q=true<->eS=q:=λq=>QF k gI.1 eS q;rcases cM with⟨rfl,eM⟩ | ⟨j,e,p,dT,eo,ko,g4,rfl⟩
      ·let ch:World:={ w with heap:=w.heap.setIfInBounds (kap b).ab (.map (ms.push { key:=a.eval x,val:=o0,born:=clk }) (clk+1)) }
       have pz:ch.heap[(kap b).ab]?=some (.map (ms.push { key:=a.eval x,val:=o0,born:=clk }) (clk+1)):=by grind
       obtain⟨kF,cn,cN⟩:=AR (F:=λ_=>True) (w:=ch) (bet:=v.aq) (xs:=es++[(eS,v.dW)]) (es:=(ms.push { key:=a.eval x,val:=o0,born:=clk }).toList) Bp py (L1 _ ch) (by grind) (λj e p E M=>by
        grind)
       have vV:∃ i,kF=some (i,o0):=by
        rcases cN with⟨_,fF⟩ | ⟨j,e,p,s1,s2,fh,nd,rfl⟩
        ·have:=fF (eS,v.dW) (by simp);grind
        ·by_cases aM:j<es.length
         ·grind
         grind
       refine⟨o0,clk,ch,λa' aF bB=>⟨L2 a' w o0 aF bB (L0 G hw (fg _ w) c6 (.inr ⟨rfl,bz w⟩)),L2 a' ch o0 aF bB (L0 G pz (fg _ ch) cn (.inl vV)),?_⟩⟩;simp only[execOp,nJ,aF,bB,m_,Instr.mapEntry,Sem.run_bind,ep G,Result.andThen_ok,gh,fg,c6,bz,vG hw,Sem.run_pure];rfl
      ·have aM:j<es.length:=(List.getElem?_eq_some_iff.1 eo).1;have aaA:j<ms.size:=by omega
       have aoM:ms[j]=e:=by
        grind
       obtain⟨qo,ch,t1,bX,cU⟩:=QH C.P w e.key (a.eval x);have pz:ch.heap[(kap b).ab]?=some (.map ms clk):=by rcases cU with rfl | rfl<;>exact hw
       have aMN:(kap b).ab<ch.heap.size:=(Array.getElem?_eq_some_iff.1 pz).1;have oW:((ms[j]?).map (·.key)).getD (a.eval x)=e.key:=by
        grind
       let dP:={ ch with heap:=ch.heap.setIfInBounds (kap b).ab (.map (ms.modify j λe=>{ e with key:=qo }) clk) }
       have gJ:dP.heap[(kap b).ab]?=some (.map (ms.modify j λe=>{ e with key:=qo }) clk):=by grind
       obtain⟨kF,cn,cN⟩:=AR (F:=λ_=>True)     (xs:=es) (es:=(ms.modify j λe=>{ e with key:=qo }).toList) Bp py (L1 _ dP) (by grind) (λi a1 p' E M=>by
        grind)
       have vV:∃ i,kF=some (i,e.val):=by
        rcases cN with⟨_,fF⟩ | ⟨i,a1,p',s1,s2,fh,nd,rfl⟩<;>grind
       refine⟨e.val,ms[j].born,dP,λa' aF bB=>⟨L2 a' w e.val aF bB (L0 G hw (fg _ w) c6 (.inl ⟨_,rfl⟩)),L2 a' dP e.val aF bB (L0 G gJ (fg _ dP) cn (.inl vV)),?_⟩⟩;simp  [execOp,nJ,aF,bB,m_,Instr.mapEntry,ep G,gh,fg,c6];grind [Result.andThen_ok,vG,Sem.run_pure]
     grind
    grind
   ·cases h
  ·cases h
 ·cases h
end
end Go.Fer
