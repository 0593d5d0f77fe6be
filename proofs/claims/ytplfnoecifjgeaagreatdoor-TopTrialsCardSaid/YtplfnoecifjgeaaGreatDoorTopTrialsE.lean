/- Part 5 of the proof of TopTrials: shallow programs of Go functions, and what they compute. No condition. -/
import Derived.Test.YtplfnoecifjgeaaGreatDoorTopTrialsD
noncomputable section
set_option linter.unusedVariables false
set_option linter.unusedSimpArgs false
namespace Go.Fer.H
open A (V)
set_option maxRecDepth 100000
abbrev ba:Type:=Int×Int×Int×Int×Int×Int
abbrev pB:Type:=Int×Int×Int×Int×Int×Int×Int
abbrev a1:Type:=z4'×List ba×z1'×z4'×pB
abbrev bB:Type:=ba×Int
abbrev dR:Type:=z1'×List (List bB)
abbrev ea:Type:=a1×List ba×List (Option dR)
abbrev ho:Type:=z4'×List ba×z1'×z4'×Int×Int×Int×Int×Int×Int×Int×List ba×List (Option dR)×Unit
abbrev fe(l:z4')(a b:Int):z4':=lP (k:=.int .i64) (v:=.int .i64) l a b
abbrev hp:ad:=.st (.az (.int .i64) (.az (.int .i64) (.az (.int .i64) (.az (.int .i64) (.az (.int .i64) (.int .i64))))))
abbrev kX(l:List (Int×ba))(a:Int)(b:ba):List (Int×ba):=lP (k:=.int .i64) (v:=hp) l a b
abbrev akl:List UInt8:=0::1::(List.replicate 2 2++(List.replicate 4 3++(List.replicate 8 4++(List.replicate 16 5++(List.replicate 32 6++(List.replicate 64 7++List.replicate 128 8))))))
abbrev _root_.Prod.da{fN fO fP fQ fR fD fE:Type}(x:fN×fO×fP×fQ×fR×fD×fE):fD:=x.2.2.2.2.2.1
abbrev _root_.Prod.ft{fN fO fP fQ fR fD fE ga:Type}(x:fN×fO×fP×fQ×fR×fD×fE×ga):fE:=x.2.2.2.2.2.2.1
abbrev _root_.Prod.gP{fN fO fP fQ fR fD fE ga gC:Type}(x:fN×fO×fP×fQ×fR×fD×fE×ga×gC):ga:=x.2.2.2.2.2.2.2.1
abbrev _root_.Prod.ir{fN fO fP fQ fR fD fE ga gC gQ:Type}(x:fN×fO×fP×fQ×fR×fD×fE×ga×gC×gQ):gC:=x.2.2.2.2.2.2.2.2.1
abbrev _root_.Prod.jR{fN fO fP fQ fR fD fE ga gC gQ hq:Type}(x:fN×fO×fP×fQ×fR×fD×fE×ga×gC×gQ×hq):gQ:=x.2.2.2.2.2.2.2.2.2.1
abbrev _root_.Prod.kY{fN fO fP fQ fR fD fE ga gC gQ hq hM:Type}(x:fN×fO×fP×fQ×fR×fD×fE×ga×gC×gQ×hq×hM):hq:=x.2.2.2.2.2.2.2.2.2.2.1
abbrev _root_.Prod.hN{fN fO fP fQ fR fD fE ga gC gQ hq hM h':Type}(x:fN×fO×fP×fQ×fR×fD×fE×ga×gC×gQ×hq×hM×h'):hM:=x.2.2.2.2.2.2.2.2.2.2.2.1
abbrev _root_.Prod.nh{fN fO fP fQ fR fD fE ga gC gQ hq hM h' iN:Type}(x:fN×fO×fP×fQ×fR×fD×fE×ga×gC×gQ×hq×hM×h'×iN):h':=x.2.2.2.2.2.2.2.2.2.2.2.2.1
abbrev _root_.Prod.pC{fN fO fP fQ fR fD fE ga gC gQ hq hM h' iN ju:Type}(x:fN×fO×fP×fQ×fR×fD×fE×ga×gC×gQ×hq×hM×h'×iN×ju):iN:=x.2.2.2.2.2.2.2.2.2.2.2.2.2.1
abbrev _root_.Prod.sO{fN fO fP fQ fR fD fE ga gC gQ hq hM h' iN ju kj:Type}(x:fN×fO×fP×fQ×fR×fD×fE×ga×gC×gQ×hq×hM×h'×iN×ju×kj):ju:=x.2.2.2.2.2.2.2.2.2.2.2.2.2.2.1
abbrev _root_.Prod.x'{fN fO fP fQ fR fD fE ga gC gQ hq hM h' iN ju kj kZ:Type}(x:fN×fO×fP×fQ×fR×fD×fE×ga×gC×gQ×hq×hM×h'×iN×ju×kj×kZ):kj:=x.2.2.2.2.2.2.2.2.2.2.2.2.2.2.2.1
abbrev _root_.Prod.DZ{fN fO fP fQ fR fD fE ga gC gQ hq hM h' iN ju kj kZ l6:Type}(x:fN×fO×fP×fQ×fR×fD×fE×ga×gC×gQ×hq×hM×h'×iN×ju×kj×kZ×l6):kZ:=x.2.2.2.2.2.2.2.2.2.2.2.2.2.2.2.2.1
abbrev _root_.Prod.D0{fN fO fP fQ fR fD fE ga gC gQ hq hM h' iN ju kj kZ l6 ni:Type}(x:fN×fO×fP×fQ×fR×fD×fE×ga×gC×gQ×hq×hM×h'×iN×ju×kj×kZ×l6×ni):l6:=x.2.2.2.2.2.2.2.2.2.2.2.2.2.2.2.2.2.1
abbrev _root_.Prod.D1{fN fO fP fQ fR fD fE ga gC gQ hq hM h' iN ju kj kZ l6 ni oT:Type}(x:fN×fO×fP×fQ×fR×fD×fE×ga×gC×gQ×hq×hM×h'×iN×ju×kj×kZ×l6×ni×oT):ni:=x.2.2.2.2.2.2.2.2.2.2.2.2.2.2.2.2.2.2.1
abbrev _root_.Prod.D2{fN fO fP fQ fR fD fE ga gC gQ hq hM h' iN ju kj kZ l6 ni oT qy:Type}(x:fN×fO×fP×fQ×fR×fD×fE×ga×gC×gQ×hq×hM×h'×iN×ju×kj×kZ×l6×ni×oT×qy):oT:=x.2.2.2.2.2.2.2.2.2.2.2.2.2.2.2.2.2.2.2.1
abbrev _root_.Prod.N6{fN fO fP fQ fR fD fE ga gC gQ hq hM h' iN ju kj kZ l6 ni oT qy sP:Type}(x:fN×fO×fP×fQ×fR×fD×fE×ga×gC×gQ×hq×hM×h'×iN×ju×kj×kZ×l6×ni×oT×qy×sP):qy:=x.2.2.2.2.2.2.2.2.2.2.2.2.2.2.2.2.2.2.2.2.1
abbrev _root_.Prod.N7{fN fO fP fQ fR fD fE ga gC gQ hq hM h' iN ju kj kZ l6 ni oT qy sP vS:Type}(x:fN×fO×fP×fQ×fR×fD×fE×ga×gC×gQ×hq×hM×h'×iN×ju×kj×kZ×l6×ni×oT×qy×sP×vS):sP:=x.2.2.2.2.2.2.2.2.2.2.2.2.2.2.2.2.2.2.2.2.2.1
abbrev _root_.Prod.N8{fN fO fP fQ fR fD fE ga gC gQ hq hM h' iN ju kj kZ l6 ni oT qy sP vS Az:Type}(x:fN×fO×fP×fQ×fR×fD×fE×ga×gC×gQ×hq×hM×h'×iN×ju×kj×kZ×l6×ni×oT×qy×sP×vS×Az):vS:=x.2.2.2.2.2.2.2.2.2.2.2.2.2.2.2.2.2.2.2.2.2.2.1
abbrev _root_.Prod.rC{fN fO fP fQ fR fD fE ga gC gQ hq hM h' iN ju kj kZ l6 ni oT qy sP vS Az HN:Type}(x:fN×fO×fP×fQ×fR×fD×fE×ga×gC×gQ×hq×hM×h'×iN×ju×kj×kZ×l6×ni×oT×qy×sP×vS×Az×HN):Az:=x.2.2.2.2.2.2.2.2.2.2.2.2.2.2.2.2.2.2.2.2.2.2.2.1
abbrev _root_.Prod.D3{fN fO fP fQ fR fD fE ga gC gQ hq hM h' iN ju kj kZ l6 ni oT qy sP vS Az HN akm:Type}(x:fN×fO×fP×fQ×fR×fD×fE×ga×gC×gQ×hq×hM×h'×iN×ju×kj×kZ×l6×ni×oT×qy×sP×vS×Az×HN×akm):HN:=x.2.2.2.2.2.2.2.2.2.2.2.2.2.2.2.2.2.2.2.2.2.2.2.2.1
def Wc(ur:a1×(Option ea->A Bool)->A (Option ea×Int))(D4:Option dR×Int×Int->A (bB×Bool))(D5:(z1'->Prop)->A (z1'))(akn:z4'->A (z1'->Prop))(ako:Option ea×Option Int×Option Int->A Bool)(x:a1×Int×Int):A (z1'×Int):=
 A.bind (ur (x.1,λhz=>ako (hz,some x.2.1,some x.2.2))) λy=>letI a:=(Option.getD y.1 (([],[],[],[],0,0,0,0,0,0,0),[],[])).2.2;if decide (y.2≠0)=true then A.pure ([],y.2) else A.bind (A.ab (Option.isSome y.1=true) (A.loop (λ(D:List (Option dR)×Int×Int×Int×Int×z4'×Unit)=>letI b:=D.2.2;if decide (b.1<D.2.1)=true then A.bind (A.ab (0<=b.1/\b.1<Int.ofNat (List.length D.1)) (A.bind (D4 (List.getD D.1 (Int.toNat b.1) none,b.2.1,b.2.2.1)) (λy=>if y.2=true then A.pure (V.next (D.1,D.2.1,b.1,b.2.1,b.2.2.1,fe D.da y.1.1.2.2.2.2.2 (IntKind.wrap .i64 (Add.add (Option.getD (Option.map (λx=>x.2) (List.find? (λp=>decide (y.1.1.2.2.2.2.2=p.1)) D.da)) 0) 1)),())) else A.pure (V.next (D.1,D.2.1,b.1,b.2.1,b.2.2.1,fe D.da (-1) (IntKind.wrap .i64 (Add.add (Option.getD (Option.map (λx=>x.2) (List.find? (λp=>decide (-1=p.1)) D.da)) 0) 1)),()))))) (V.bz (λ(D:List (Option dR)×Int×Int×Int×Int×z4'×Unit)=>A.pure (V.next (D.1,D.2.1,IntKind.wrap .i64 (Add.add D.2.2.1 1),D.2.2.2.1,D.2.2.2.2.1,D.da,())))) else A.bind (A.pure (V.next (D.da,()))) λr=>A.pure (V.done r)) (a,Int.ofNat (List.length a),0,x.2.1,x.2.2,[],()))) (V.bz (λ(D:z4'×Unit)=>A.bind (akn D.1) λy=>A.bind (D5 y) λy=>A.pure (y,0)))
def Wd(x:a1):A a1:=
 A.ab (bQ (Add.add 0 (List.length x.1))) (A.ab (bQ (Add.add 0 (List.length x.2.1))) (A.ab (bQ (Add.add 0 (List.length x.2.2.1))) (A.ab (bQ (Add.add 0 (List.length x.2.2.2.1))) (A.pure ([]++x.1,[]++x.2.1,[]++x.2.2.1,[]++x.2.2.2.1,x.2.2.2.2)))))
def We(N9:a1×Int×(Int->A Int)->A ((Int×Int)×Int))(akp:Int×Option a1->A Int)(x:a1×Int):A ((Int×Int)×Int):=
 A.bind (N9 (x.1,x.2,λhz=>akp (hz,some x.1))) λy=>A.pure y
def Wf(N9:a1×Int×(Int->A Int)->A ((Int×Int)×Int))(akq:Int->A Int)(x:a1×Int):A ((Int×Int)×Int):=
 A.bind (N9 (x.1,x.2,akq)) λy=>A.pure y
def Wg(ur:a1×(Option ea->A Bool)->A (Option ea×Int))(D6:Option ea×(Option dR->A (Int×Bool))->A ((Int×Int)×Bool))(akr:Option ea×Option Int->A Bool)(aks:Option dR×Option Int×Option a1->A (Int×Bool))(x:a1×Int):A ((Int×Int)×Int):=
 A.bind (ur (x.1,λhz=>akr (hz,some x.2))) λy=>if decide (y.2≠0)=true then A.pure ((0,0),y.2) else A.bind (D6 (y.1,λhz=>aks (hz,some x.2,some x.1))) λy=>A.pure (y.1,0)
def Wh(ur:a1×(Option ea->A Bool)->A (Option ea×Int))(D6:Option ea×(Option dR->A (Int×Bool))->A ((Int×Int)×Bool))(akt:Option ea×Option Int->A Bool)(aku:Option dR×Option (Option ea)×Option Int×Option a1->A (Int×Bool))(x:a1×Int):A ((Int×Int)×Int):=
 A.bind (ur (x.1,λhz=>akt (hz,some x.2))) λy=>if decide (y.2≠0)=true then A.pure ((0,0),y.2) else A.bind (D6 (y.1,λhz=>aku (hz,some y.1,some x.2,some x.1))) λy=>A.pure (y.1,0)
def Wi(akv:a1->A Bool)(N_:List ba->A (List ba×Bool))(x:a1):A Int:=
 A.bind (akv x) λy=>if (!y)=true then A.pure 90 else A.bind (N_ x.2.1) λy=>if (!y.2)=true then A.pure 91 else A.pure 0
def Wj(akw:a1->A Bool)(Wk:ba×Int×Int×Int×Int×Int×Int->A Bool)(x:a1):A Int:=
 A.bind (akw x) λy=>if (!y)=true then A.pure 90 else A.bind (A.loop (λ(D:Int×a1×Unit)=>if decide (D.1<Int.ofNat (List.length D.2.1.2.1))=true then A.bind (A.loop (λ(D:Int×Int×a1×Unit)=>letI c:=D.2.2.1;letI b:=Int.ofNat (List.length c.2.1);letI a:=(List.getD c.2.1 (Int.toNat D.2.1) (0,0,0,0,0,0),List.getD c.2.1 (Int.toNat D.1) (0,0,0,0,0,0));if decide (D.2.1<D.1)=true then A.ab (0<=D.2.1/\D.2.1<b) (A.ab (0<=D.1/\D.1<b) (A.ab (Wk a).cm (if A.val (Wk a) false=true then A.bind (A.bind (A.bind (A.bind (A.pure 91) (λr=>A.pure (V.done r))) (λr=>A.pure (V.done r))) (λr=>A.pure (V.done r))) λr=>A.pure (V.done r) else A.pure (V.next (D.1,IntKind.wrap .i64 (Add.add D.2.1 1),c,()))))) else A.bind (A.pure (V.next (D.1,c,()))) λr=>A.pure (V.done r)) (D.1,0,D.2.1,())) (V.bz (λ(D:Int×a1×Unit)=>A.pure (V.next (IntKind.wrap .i64 (Add.add D.1 1),D.2.1,())))) else A.bind (A.pure (V.next ())) λr=>A.pure (V.done r)) (0,x,())) (V.bz (λ(D:Unit)=>A.pure 0))
def Wl(ur:a1×(Option ea->A Bool)->A (Option ea×Int))(D4:Option dR×Int×Int->A (bB×Bool))(AA:a1×Int×Int->A Int)(akx:Option ea×Option Int->A Bool)(x:a1×Int):A (z1'×z1'×Int):=
 A.bind (ur (x.1,λhz=>akx (hz,some x.2))) λy=>if decide (y.2≠0)=true then A.pure ([],[],y.2) else A.bind (A.loop (λ(D:Option ea×Int×a1×Int×z1'×z1'×Unit)=>letI b:=(Option.getD D.1 (([],[],[],[],0,0,0,0,0,0,0),[],[])).2.2;if decide (D.2.1<10)=true then A.bind (A.bind (A.ab (Option.isSome D.1=true) (A.loop (λ(D:Option ea×Int×Int×Int×List (Option dR)×Int×Int×a1×Int×z1'×z1'×Unit)=>letI d:=D.2.2.2;if decide (D.ft<D.da)=true then A.bind (A.ab (0<=D.ft/\D.ft<Int.ofNat (List.length d.2.1)) (A.bind (D4 (List.getD d.2.1 (Int.toNat D.ft) none,D.2.1,D.ir)) (λy=>letI a:=y.2=true;letI c:=a->a/\True/\True;A.ab c (A.ab (a->(a/\a/\a/\True)/\(AA (D.gP,y.1.2,D.ir)).cm/\True) (A.ab c (A.ab c (A.ab (a->(a/\a)/\True/\True) (A.ab (True/\(a->a)) (if (y.2&&decide (A.val (AA (D.gP,y.1.2,D.ir)) 0>=D.gP.ir))=true then A.pure (V.next (D.1,D.2.1,IntKind.wrap .i64 (Add.add D.2.2.1 1),d.1,d.2.1,D.da,D.ft,D.gP,D.ir,D.jR,D.kY,())) else A.pure (V.next (D.1,D.2.1,D.2.2.1,d.1,d.2.1,D.da,D.ft,D.gP,D.ir,D.jR,D.kY,()))))))))))) (V.bz (λ(D:Option ea×Int×Int×Int×List (Option dR)×Int×Int×a1×Int×z1'×z1'×Unit)=>A.pure (V.next (D.1,D.2.1,D.2.2.1,D.2.2.2.1,D.2.2.2.2.1,D.da,IntKind.wrap .i64 (Add.add D.ft 1),D.gP,D.ir,D.jR,D.kY,())))) else A.bind (A.pure (V.next (D.1,D.2.1,D.2.2.1,d.1,D.gP,D.ir,D.jR,D.kY,()))) λr=>A.pure (V.done r)) (D.1,D.2.1,0,D.2.1,b,Int.ofNat (List.length b),0,D.2.2.1,D.2.2.2.1,D.2.2.2.2.1,D.da,()))) (V.bz (λ(D:Option ea×Int×Int×Int×a1×Int×z1'×z1'×Unit)=>letI e:=D.2.2;A.bind (if decide (e.1 > 0)=true then A.ab (bQ (Add.add (List.length D.gP) (Add.add 0 1))) (A.pure (V.next (D.1,D.2.1,e.1,e.2.1,e.2.2.1,D.da,D.ft,D.gP++[D.2.1],()))) else A.pure (V.next (D.1,D.2.1,e.1,e.2.1,e.2.2.1,D.da,D.ft,D.gP,()))) (V.bz (λ(D:Option ea×Int×Int×Int×a1×Int×z1'×z1'×Unit)=>letI f:=D.2.2.2;A.ab (Option.isSome D.1=true) (if decide (D.2.2.1=Int.ofNat (List.length (Option.getD D.1 (([],[],[],[],0,0,0,0,0,0,0),[],[])).2.2))=true then A.ab (bQ (Add.add (List.length D.ft) (Add.add 0 1))) (A.pure (V.next (D.1,f.1,f.2.1,D.da,D.ft++[D.2.1],D.gP,()))) else A.pure (V.next (D.1,f.1,f.2.1,D.da,D.ft,D.gP,())))))))) (V.bz (λ(D:Option ea×Int×a1×Int×z1'×z1'×Unit)=>A.pure (V.next (D.1,IntKind.wrap .i64 (Add.add D.2.1 1),D.2.2.1,D.2.2.2.1,D.2.2.2.2.1,D.da,())))) else A.bind (A.pure (V.next (D.2.2.2.2.1,D.da,()))) λr=>A.pure (V.done r)) (y.1,0,x.1,x.2,[],[],())) (V.bz (λ(D:z1'×z1'×Unit)=>A.pure (D.1,D.2.1,0)))
def Wm(AB:a1->A Int)(aky:List ba×Unit->A (Bool×List ba×Unit))(akz:(Int×Int×Int×Int×Int×Int->A Bool)×List ba×Unit->A ((Nat×Nat)×List ba×Unit))(N':z1'×ho->A (ho))(akA:ba×Option a1->A Bool)(x:a1×(Option ea->A Bool)):A (Option ea×Int):=
 A.bind (AB x.1) λy=>if decide (y≠0)=true then A.pure (none,y) else A.bind (aky (x.1.2.1,())) λy=>A.ab True (A.ab True (A.bind (akz (λhz=>akA (hz,some x.1),y.2.1,())) (λy=>A.ab True (A.bind (A.bind (x.2 (some (x.1,List.drop y.1.1 (List.take y.1.2 y.2.1),[]))) (λb3=>if (!b3)=true then A.bind (A.pure (none,1)) λr=>A.pure (V.done r) else A.pure (V.next (x.1.1,x.1.2.1,x.1.2.2.1,x.1.2.2.2.1,x.1.2.2.2.2.1,x.1.da,x.1.ft,x.1.gP,x.1.ir,x.1.jR,x.1.2.2.2.2.2.2.2.2.2.2,y.1,y.2.1,[],())))) (V.bz (λ(D:z4'×List ba×z1'×z4'×Int×Int×Int×Int×Int×Int×Int×(Nat×Nat)×List ba×List (Option dR)×Unit)=>A.bind (N' ([],D.1,D.2.1,D.2.2.1,D.2.2.2.1,D.2.2.2.2.1,D.da,D.ft,D.gP,D.ir,D.jR,D.kY,List.drop D.hN.1 (List.take D.hN.2 D.nh),D.pC,())) λy=>A.ab True (if decide (Int.ofNat (List.length y.nh)=0)=true then A.pure (none,3) else A.pure (some ((y.1,y.2.1,y.2.2.1,y.2.2.2.1,y.2.2.2.2.1,y.da,y.ft,y.gP,y.ir,y.jR,y.kY),y.hN,y.nh),0))))))))
def Wn(jv:Int×Int×Int->A Bool)(D7:Int->A Bool)(x:Option ea×Option Int×Option Int):A Bool:=
 A.bind (jv (Option.getD x.2.1 0,0,9)) λy=>A.bind (cr y (D7 (Option.getD x.2.2 0)) false) λb3=>A.pure (y&&b3)
def akB(x:Int×Int×Int):A Bool:=
 A.pure (decide (x.2.1<=x.1)&&decide (x.1<=x.2.2))
def Wo(jv:Int×Int×Int->A Bool)(x:Int):A Bool:=
 A.bind (jv (x,0,9999)) λy=>A.pure y
def Wp(x:Option dR×Int×Int):A (bB×Bool):=
 letI b:=List.getD (Option.getD x.1 ([],[[],[],[],[],[],[],[],[],[],[]])).2 (Int.toNat x.2.1) [];A.bind (A.ab (Option.isSome x.1=true) (A.ab (0<=x.2.1/\x.2.1<Int.ofNat 10) (A.loop (λ(D:Int×Bool×List bB×Int×Int×bB×bB×Unit)=>letI d:=D.2.2;letI c:=d.2.2.1;letI a:=List.getD d.1 (Int.toNat c) ((0,0,0,0,0,0),0);if decide (c<d.2.1)=true then A.bind (A.ab (0<=c/\c<Int.ofNat (List.length d.1)) (if decide (a.2<=D.1)=true then A.pure (V.next (D.1,decide (a.1.2.2.2.1=1),d.1,d.2.1,c,D.da,a,())) else A.pure (V.next (D.1,D.2.1,d.1,d.2.1,c,D.da,D.ft,())))) (V.bz (λ(D:Int×Bool×List bB×Int×Int×bB×bB×Unit)=>A.pure (V.next (D.1,D.2.1,D.2.2.1,D.2.2.2.1,IntKind.wrap .i64 (Add.add D.2.2.2.2.1 1),D.da,D.ft,())))) else A.bind (A.pure (V.next (D.2.1,D.da,D.ft,()))) λr=>A.pure (V.done r)) (x.2.2,false,b,Int.ofNat (List.length b),0,((0,0,0,0,0,0),0),((0,0,0,0,0,0),0),())))) (V.bz (λ(D:Bool×bB×bB×Unit)=>A.pure (D.2.2.1,D.1)))
def Wq(Oa:z1'×Unit->A (z1'×Unit))(akC:(z1'->Prop)×Unit->A (z1'×Unit))(x:z1'->Prop):A (z1'):=
 A.bind (akC (x,())) λy=>A.bind (Oa (y.1,())) λy=>A.pure y.1
def akD(akE:Option (z4')->z1'->Prop)(x:z4'):A (z1'->Prop):=
 A.pure (akE (some x))
def Wr(ur:a1×(Option ea->A Bool)->A (Option ea×Int))(D6:Option ea×(Option dR->A (Int×Bool))->A ((Int×Int)×Bool))(akF:Option ea×Option Int->A Bool)(akG:Option dR×Option (Option ea)×Option Int×Option (Int->A Int)->A (Int×Bool))(x:a1×Int×(Int->A Int)):A ((Int×Int)×Int):=
 A.bind (ur (x.1,λhz=>akF (hz,some x.2.1))) λy=>if decide (y.2≠0)=true then A.pure ((0,0),y.2) else A.bind (D6 (y.1,λhz=>akG (hz,some y.1,some x.2.1,some x.2.2))) λy=>if (!y.2)=true then A.pure ((0,0),3) else A.pure (y.1,0)
def Ws(HO:pB×Int->A Int)(x:Int×Option a1):A Int:=
 A.bind (HO ((Option.getD x.2 ([],[],[],[],0,0,0,0,0,0,0)).2.2.2.2,x.1)) λy=>A.pure y
def Wt(x:pB×Int):A Int:=
 letI c:=x.1.2;letI b:=IntKind.wrap .i64 (x.2-x.1.1);letI a:=IntKind.wrap .i64 (c.2.1*IntKind.wrap .i64 (Int.tdiv (IntKind.wrap .i64 (IntKind.wrap .i64 (Add.add (if b > 0 then b else 0) c.1)-1)) c.1));if decide (x.2>=c.2.2.2.1)=true then A.pure x.1.da else A.ab (c.1≠0) (A.pure (if a<c.2.2.1 then a else c.2.2.1))
def akH(x:Int):A Int:=
 A.pure x
def Wu(D7:Int->A Bool)(x:Option ea×Option Int):A Bool:=
 A.bind (D7 (Option.getD x.2 0)) λy=>A.pure y
def Wv(x:Option ea×(Option dR->A (Int×Bool))):A ((Int×Int)×Bool):=
 letI b:=(Option.getD x.1 (([],[],[],[],0,0,0,0,0,0,0),[],[])).2.2;A.bind (A.ab (Option.isSome x.1=true) (A.loop (λ(D:(Option dR->A (Int×Bool))×Bool×List (Option dR)×Int×Int×(Int×Int)×Unit)=>letI c:=D.2.2;letI a:=c.2.2.1;if decide (a<c.2.1)=true then A.bind (A.ab (0<=a/\a<Int.ofNat (List.length c.1)) (A.bind (D.1 (List.getD c.1 (Int.toNat a) none)) (λy=>if (!y.2)=true then A.pure (V.next (D.1,D.2.1,c.1,c.2.1,a,D.da,())) else if (!D.2.1)=true then A.pure (V.next (D.1,true,c.1,c.2.1,a,(y.1,y.1),())) else A.pure (V.next (D.1,D.2.1,c.1,c.2.1,a,(if y.1<D.da.1 then y.1 else D.da.1,if y.1 > D.da.2 then y.1 else D.da.2),()))))) (V.bz (λ(D:(Option dR->A (Int×Bool))×Bool×List (Option dR)×Int×Int×(Int×Int)×Unit)=>A.pure (V.next (D.1,D.2.1,D.2.2.1,D.2.2.2.1,IntKind.wrap .i64 (Add.add D.2.2.2.2.1 1),D.da,())))) else A.bind (A.pure (V.next (D.2.1,D.da,()))) λr=>A.pure (V.done r)) (x.2,false,b,Int.ofNat (List.length b),0,(0,0),()))) (V.bz (λ(D:Bool×(Int×Int)×Unit)=>A.pure (D.2.1,D.1)))
def Ww(D4:Option dR×Int×Int->A (bB×Bool))(x:Option dR×Option Int×Option a1):A (Int×Bool):=
 A.bind (A.loop (λ(D:Option dR×Int×a1×Int×Int×Unit)=>letI a:=D.2.2.2;if decide (a.2.1<10)=true then A.bind (A.bind (D4 (D.1,a.2.1,D.2.1)) (λy=>if y.2=true then A.pure (V.next (D.1,D.2.1,D.2.2.1,IntKind.wrap .i64 (Add.add a.1 D.2.2.1.2.2.2.2.2.2.2.2.2.2),a.2.1,())) else A.pure (V.next (D.1,D.2.1,D.2.2.1,a.1,a.2.1,())))) (V.bz (λ(D:Option dR×Int×a1×Int×Int×Unit)=>A.pure (V.next (D.1,D.2.1,D.2.2.1,D.2.2.2.1,IntKind.wrap .i64 (Add.add D.2.2.2.2.1 1),())))) else A.bind (A.pure (V.next (a.1,()))) λr=>A.pure (V.done r)) (x.1,Option.getD x.2.1 0,Option.getD x.2.2 ([],[],[],[],0,0,0,0,0,0,0),0,0,())) (V.bz (λ(D:Int×Unit)=>A.pure (D.1,true)))
def Wx(AD:Int->A Bool)(x:Option ea×Option Int):A Bool:=
 A.bind (AD (Option.getD x.2 0)) λy=>A.pure y
def Wy(jv:Int×Int×Int->A Bool)(x:Int):A Bool:=
 A.bind (jv (x,0,99)) λy=>A.pure y
def Wz(HO:pB×Int->A Int)(Ob:Option ea×Option dR->A (List bB->Prop))(x:Option dR×Option (Option ea)×Option Int×Option a1):A (Int×Bool):=
 A.bind (Ob (Option.getD x.2.1 none,x.1)) λy=>A.bind (A.any y) λL=>A.bind (jM (λ(D:Int×a1×Int×Unit) (y:ba×Int)=>letI a:=(D.2.1.2.2.2.2,y.2);A.bind (if decide (y.1.2.2.2.2.2=D.1)=true then A.ab (HO a).cm (A.pure (dj.normal,IntKind.wrap .i64 (Add.add D.2.2.1 (A.val (HO a) 0)),())) else A.pure (dj.normal,D.2.2.1,())) λp=>A.pure (p.1,D.1,D.2.1,p.2.1,())) L (Option.getD x.2.2.1 0,Option.getD x.2.2.2 ([],[],[],[],0,0,0,0,0,0,0),0,())) λp=>sv (A.pure (p.2.2.2.1,true)) (λid=>if id=0 then A.pure (p.2.2.2.1,true) else A.fail) A.fail p.1
def akI(akJ:Option (Option dR)×Option (Option ea)->List bB->Prop)(x:Option ea×Option dR):A (List bB->Prop):=
 A.pure (akJ (some x.2,some x.1))
def WA(jv:Int×Int×Int->A Bool)(Oc:List ba×(Int×Int×Int×Int×Int×Int->A Bool)->A Bool)(akK:Int×Int×Int×Int×Int×Int×Int->A Bool)(N0:z1'×(Int->A Bool)->A Bool)(akL:ba×Option a1->A Bool)(akM:Int->A Bool)(x:a1):A Bool:=
 letI k:=Int.ofNat (List.length x.1);letI d:=decide (k > 3)||decide (Int.ofNat (List.length x.2.1) > 12)||decide (Int.ofNat (List.length x.2.2.1) > 12)||decide (Int.ofNat (List.length x.2.2.2.1) > 4);A.bind (cr (!d) (akK x.2.2.2.2) false) λy=>if (d||!y)=true then A.pure false else A.bind (A.loop (λ(D:z4'×Int×Int×a1×Unit)=>letI l:=D.2.2.1;letI e:=List.getD D.1 (Int.toNat l) (0,0);if decide (l<D.2.1)=true then A.ab (0<=l/\l<Int.ofNat (List.length D.1)) (A.bind (jv (e.1,-30,e.2)) (λy=>if (!y||decide (e.2 > 30))=true then A.bind (A.bind (A.pure false) (λr=>A.pure (V.done r))) λr=>A.pure (V.done r) else A.pure (V.next (D.1,D.2.1,IntKind.wrap .i64 (Add.add l 1),D.2.2.2.1,())))) else A.bind (A.pure (V.next (D.2.2.2.1,()))) λr=>A.pure (V.done r)) (x.1,k,0,x,())) (V.bz (λ(D:a1×Unit)=>A.bind (A.loop (λ(D:z4'×Int×Int×a1×Unit)=>letI m:=D.2.2.2.1;letI f:=D.2.2.1;letI j:=decide (f > 0);letI i:=IntKind.wrap .i64 (f-1);letI b:=List.getD D.1 (Int.toNat f) (0,0);letI a:=!(A.val (jv (b.1,0,b.2)) false)||decide (b.2 > 9999);letI h:=(!a)=true;letI c:=(!a&&j)=true;letI g:=c->c/\True/\True;if decide (f<D.2.1)=true then A.ab (0<=f/\f<Int.ofNat (List.length D.1)) (A.ab (jv (b.1,0,b.2)).cm (A.ab ((!(!(A.val (jv (b.1,0,b.2)) false)))=true->(!(!(A.val (jv (b.1,0,b.2)) false)))=true/\True/\True) (A.ab ((!(!(A.val (jv (b.1,0,b.2)) false)))=true->((!(!(A.val (jv (b.1,0,b.2)) false)))=true/\True)/\True/\True) (A.ab (True/\((!(A.val (jv (b.1,0,b.2)) false))=false->(!(!(A.val (jv (b.1,0,b.2)) false)))=true)) (A.ab (h->(h/\True)/\True/\True) (A.ab (h->True/\True/\h) (A.ab g (A.ab g (A.ab (c->(c/\True)/\True/\True) (A.ab (c->(c/\c)/\(0<=i/\i<Int.ofNat (List.length m.2.2.2.1))/\True) (A.ab g (A.ab g (A.ab (c->(c/\c)/\True/\True) (A.ab (h->(h/\(j=true->c))/\True/\True) (A.ab (True/\(a=false->h)) (if (a||j&&decide (b.1<=(List.getD m.2.2.2.1 (Int.toNat i) (0,0)).2))=true then A.bind (A.bind (A.pure false) (λr=>A.pure (V.done r))) λr=>A.pure (V.done r) else A.pure (V.next (D.1,D.2.1,IntKind.wrap .i64 (Add.add f 1),m,())))))))))))))))))) else A.bind (A.pure (V.next (m,()))) λr=>A.pure (V.done r)) (D.1.2.2.2.1,Int.ofNat (List.length D.1.2.2.2.1),0,D.1,())) (V.bz (λ(D:a1×Unit)=>A.bind (Oc (D.1.2.1,λx=>akL (x,some D.1))) λy=>A.bind (cr (!y) (N0 (D.1.2.2.1,akM)) false) λb3=>A.pure (!y&&!b3)))))
def akN(D5:(z1'->Prop)->A (z1'))(Od:List (Int×ba)->A (z1'->Prop))(x:List ba):A (List ba×Bool):=
 A.bind (A.loop (λ(D:List ba×Int×Int×List (Int×ba)×Unit)=>letI e:=D.2.2;letI b:=List.getD D.1 (Int.toNat e.1) (0,0,0,0,0,0);letI c:=Option.map (λx=>x.2) (List.find? (λp=>decide (b.1=p.1)) e.2.1);letI a:=Option.getD c (0,0,0,0,0,0);if decide (e.1<D.2.1)=true then A.ab (0<=e.1/\e.1<Int.ofNat (List.length D.1)) (if (Option.isSome c&&!(decide (a.1=b.1)&&(decide (a.2.1=b.2.1)&&(decide (a.2.2.1=b.2.2.1)&&(decide (a.2.2.2.1=b.2.2.2.1)&&(decide (a.2.2.2.2.1=b.2.2.2.2.1)&&decide (a.2.2.2.2.2=b.2.2.2.2.2)))))))=true then A.bind (A.bind (A.pure ([],false)) (λr=>A.pure (V.done r))) λr=>A.pure (V.done r) else A.pure (V.next (D.1,D.2.1,IntKind.wrap .i64 (Add.add e.1 1),kX e.2.1 b.1 b,()))) else A.bind (A.pure (V.next (e.2.1,()))) λr=>A.pure (V.done r)) (x,Int.ofNat (List.length x),0,[],())) (V.bz (λ(D:List (Int×ba)×Unit)=>A.bind (A.bind (Od D.1) (λy=>A.bind (D5 y) λy=>A.loop (λ(D:z1'×Int×Int×List ba×List (Int×ba)×Unit)=>letI d:=D.2.2;if decide (d.1<D.2.1)=true then A.ab (0<=d.1/\d.1<Int.ofNat (List.length D.1)) (A.ab (bQ (Add.add (List.length d.2.1) (Add.add 0 1))) (A.pure (V.next (D.1,D.2.1,IntKind.wrap .i64 (Add.add d.1 1),d.2.1++[Option.getD (Option.map (λx=>x.2) (List.find? (λp=>decide (List.getD D.1 (Int.toNat d.1) 0=p.1)) d.2.2.1)) (0,0,0,0,0,0)],d.2.2.1,())))) else A.bind (A.pure (V.next (d.2.1,()))) λr=>A.pure (V.done r)) (y,Int.ofNat (List.length y),0,[],D.1,()))) (V.bz (λ(D:List ba×Unit)=>A.pure (D.1,true)))))
def WB(gb:Int×Int×Int->A Bool)(akO:Int×Int×Int×Int×Int×Int×Int->A Bool)(WC:a1×Int×Int×Int×Int×Int×Int->A Bool)(x:a1):A Bool:=
 letI e:=decide (Int.ofNat (List.length x.1) > 3)||decide (Int.ofNat (List.length x.2.1) > 12)||decide (Int.ofNat (List.length x.2.2.1) > 12)||decide (Int.ofNat (List.length x.2.2.2.1) > 4);A.bind (cr (!e) (akO x.2.2.2.2) false) λy=>if (e||!y)=true then A.pure false else A.bind (A.loop (λ(D:Int×a1×Unit)=>letI f:=D.1<Int.ofNat (List.length D.2.1.1);letI o:=0<=D.1/\f;letI b:=List.getD D.2.1.1 (Int.toNat D.1) (0,0);if decide f=true then A.ab o (A.ab o (A.ab (gb (b.1,-30,b.2)).cm (A.ab ((!(!(A.val (gb (b.1,-30,b.2)) false)))=true->(!(!(A.val (gb (b.1,-30,b.2)) false)))=true/\True/\True) (A.ab ((!(!(A.val (gb (b.1,-30,b.2)) false)))=true->((!(!(A.val (gb (b.1,-30,b.2)) false)))=true/\(!(!(A.val (gb (b.1,-30,b.2)) false)))=true)/\o/\True) (A.ab ((!(!(A.val (gb (b.1,-30,b.2)) false)))=true->(!(!(A.val (gb (b.1,-30,b.2)) false)))=true/\True/\True) (A.ab ((!(!(A.val (gb (b.1,-30,b.2)) false)))=true->(!(!(A.val (gb (b.1,-30,b.2)) false)))=true/\True/\True) (A.ab ((!(!(A.val (gb (b.1,-30,b.2)) false)))=true->((!(!(A.val (gb (b.1,-30,b.2)) false)))=true/\True)/\True/\True) (A.ab (True/\((!(A.val (gb (b.1,-30,b.2)) false))=false->(!(!(A.val (gb (b.1,-30,b.2)) false)))=true)) (if (!(A.val (gb (b.1,-30,b.2)) false)||decide (b.2 > 30))=true then A.bind (A.bind (A.pure false) (λr=>A.pure (V.done r))) λr=>A.pure (V.done r) else A.pure (V.next (IntKind.wrap .i64 (Add.add D.1 1),D.2.1,()))))))))))) else A.bind (A.pure (V.next (D.2.1,()))) λr=>A.pure (V.done r)) (0,x,())) (V.bz (λ(D:a1×Unit)=>A.bind (A.loop (λ(D:Int×a1×Unit)=>letI m:=D.1<Int.ofNat (List.length D.2.1.2.1);letI h:=(D.2.1,List.getD D.2.1.2.1 (Int.toNat D.1) (0,0,0,0,0,0));if decide m=true then A.ab (0<=D.1/\m) (A.ab (WC h).cm (if (!(A.val (WC h) false))=true then A.bind (A.bind (A.pure false) (λr=>A.pure (V.done r))) λr=>A.pure (V.done r) else A.pure (V.next (IntKind.wrap .i64 (Add.add D.1 1),D.2.1,())))) else A.bind (A.pure (V.next (D.2.1,()))) λr=>A.pure (V.done r)) (0,D.1,())) (V.bz (λ(D:a1×Unit)=>A.bind (A.loop (λ(D:Int×a1×Unit)=>letI l:=D.1<Int.ofNat (List.length D.2.1.2.2.1);if decide l=true then A.ab (0<=D.1/\l) (A.bind (gb (List.getD D.2.1.2.2.1 (Int.toNat D.1) 0,0,99)) (λy=>if (!y)=true then A.bind (A.bind (A.pure false) (λr=>A.pure (V.done r))) λr=>A.pure (V.done r) else A.pure (V.next (IntKind.wrap .i64 (Add.add D.1 1),D.2.1,())))) else A.bind (A.pure (V.next (D.2.1,()))) λr=>A.pure (V.done r)) (0,D.1,())) (V.bz (λ(D:a1×Unit)=>A.bind (A.loop (λ(D:Int×a1×Unit)=>letI p:=D.2.1.2.2.2.1;letI n:=decide (D.1 > 0);letI k:=IntKind.wrap .i64 (D.1-1);letI g:=Int.ofNat (List.length p);letI c:=List.getD p (Int.toNat D.1) (0,0);letI a:=!(A.val (gb (c.1,0,c.2)) false)||decide (c.2 > 9999);letI j:=(!a)=true;letI d:=(!a&&n)=true;letI i:=d->d/\True/\True;if decide (D.1<g)=true then A.ab (0<=D.1/\D.1<g) (A.ab (gb (c.1,0,c.2)).cm (A.ab ((!(!(A.val (gb (c.1,0,c.2)) false)))=true->(!(!(A.val (gb (c.1,0,c.2)) false)))=true/\True/\True) (A.ab ((!(!(A.val (gb (c.1,0,c.2)) false)))=true->((!(!(A.val (gb (c.1,0,c.2)) false)))=true/\True)/\True/\True) (A.ab (True/\((!(A.val (gb (c.1,0,c.2)) false))=false->(!(!(A.val (gb (c.1,0,c.2)) false)))=true)) (A.ab (j->(j/\True)/\True/\True) (A.ab (j->True/\True/\j) (A.ab i (A.ab i (A.ab (d->(d/\True)/\True/\True) (A.ab (d->(d/\d)/\(0<=k/\k<g)/\True) (A.ab i (A.ab i (A.ab (d->(d/\d)/\True/\True) (A.ab (j->(j/\(n=true->d))/\True/\True) (A.ab (True/\(a=false->j)) (if (a||n&&decide (c.1<=(List.getD p (Int.toNat k) (0,0)).2))=true then A.bind (A.bind (A.pure false) (λr=>A.pure (V.done r))) λr=>A.pure (V.done r) else A.pure (V.next (IntKind.wrap .i64 (Add.add D.1 1),D.2.1,())))))))))))))))))) else A.bind (A.pure (V.next ())) λr=>A.pure (V.done r)) (0,D.1,())) (V.bz (λ(D:Unit)=>A.pure true))))))))
def WD(x:ba×Int×Int×Int×Int×Int×Int):A Bool:=
 letI a:=decide (x.1.1=x.2.1);A.pure (a&&!(a&&(decide (x.1.2.1=x.2.2.1)&&(decide (x.1.2.2.1=x.2.2.2.1)&&(decide (x.1.2.2.2.1=x.2.2.2.2.1)&&(decide (x.1.2.2.2.2.1=x.da)&&decide (x.1.2.2.2.2.2=x.2.2.2.2.2.2)))))))
def WE(ki:Int×Int×Int->A Bool)(x:Int×Int×Int):A Bool:=
 A.bind (ki x) λy=>A.pure y
def akP(D7:Int->A Bool)(x:Option ea×Option Int):A Bool:=
 A.bind (D7 (Option.getD x.2 0)) λy=>A.pure y
def WG(x:a1×Int×Int):A Int:=
 A.bind (A.loop (λ(D:Int×Int×Int×z4'×Int×Int×Unit)=>letI c:=D.2.2.2;letI b:=IntKind.wrap .i64 (D.2.1-1);letI a:=List.getD c.1 (Int.toNat D.da) (0,0);if decide (D.da<c.2.1)=true then A.ab (0<=D.da/\D.da<Int.ofNat (List.length c.1)) (A.pure (V.next (D.1,D.2.1,IntKind.wrap .i64 (D.2.2.1-(if IntKind.wrap .i64 (Add.add (IntKind.wrap .i64 ((if b<a.2 then b else a.2)-(if D.1 > a.1 then D.1 else a.1))) 1) > 0 then IntKind.wrap .i64 (Add.add (IntKind.wrap .i64 ((if b<a.2 then b else a.2)-(if D.1 > a.1 then D.1 else a.1))) 1) else 0)),c.1,c.2.1,IntKind.wrap .i64 (Add.add D.da 1),()))) else A.bind (A.pure (V.next (D.2.2.1,()))) λr=>A.pure (V.done r)) (x.2.1,x.2.2,IntKind.wrap .i64 (x.2.2-x.2.1),x.1.2.2.2.1,Int.ofNat (List.length x.1.2.2.2.1),0,())) (V.bz (λ(D:Int×Unit)=>A.pure D.1))
def WH(x:z4'):A (z4'):=
 A.bind (A.any (λb=>b=true->x=[])) λy=>if y=true then A.pure [] else A.ab (bQ (Add.add 0 (List.length x))) (A.pure ([]++x))
def WI(hL:z1'×Int->A Bool)(x:ba×Option a1):A Bool:=
 A.bind (hL ((Option.getD x.2 ([],[],[],[],0,0,0,0,0,0,0)).2.2.1,x.1.1)) λy=>A.pure y
def WJ(Oc:List ba×(Int×Int×Int×Int×Int×Int->A Bool)->A Bool)(akQ:ba×Option Int->A Bool)(x:Option ea×Option Int):A Bool:=
 A.ab (Option.isSome x.1=true) (A.bind (Oc ((Option.getD x.1 (([],[],[],[],0,0,0,0,0,0,0),[],[])).2.1,λhz=>akQ (hz,some (Option.getD x.2 0)))) (λy=>A.pure y))
def akR(Oe:List ba×(Int×Int×Int×Int×Int×Int->A Bool)->A Int)(x:List ba×(Int×Int×Int×Int×Int×Int->A Bool)):A Bool:=
 A.bind (Oe x) λy=>A.pure (decide (y>=0))
def akS(x:ba×Option Int):A Bool:=
 A.pure (decide (x.1.1=Option.getD x.2 0)&&decide (x.1.2.2.2.1=1))
def WK(Ob:Option ea×Option dR->A (List bB->Prop))(x:Option dR×Option (Option ea)×Option Int×Option (Int->A Int)):A (Int×Bool):=
 A.bind (Ob (Option.getD x.2.1 none,x.1)) λy=>A.bind (A.any y) λL=>A.bind (jM (λ(D:Int×(Int->A Int)×Int×Bool×Unit) (y:ba×Int)=>A.bind (if decide (y.1.1=D.1)=true then A.bind (D.2.1 y.2) λy=>A.pure (dj.ret,y,true,()) else A.pure (dj.normal,D.2.2.1,D.2.2.2.1,())) λp=>A.pure (p.1,D.1,D.2.1,p.2.1,p.2.2.1,())) L (Option.getD x.2.2.1 0,Option.getD x.2.2.2 λx=>{ cm:=False,bL:=λx=>False },0,false,())) λp=>sv (A.pure (0,false)) (λid=>if id=0 then A.pure (0,false) else A.fail) (A.pure (p.2.2.2.1,p.2.2.2.2.1)) p.1
def WL(jv:Int×Int×Int->A Bool)(x:Int×Int×Int×Int×Int×Int×Int):A Bool:=
 A.bind (A.loop (λ(D:Int×Int×pB×z1'×Unit)=>letI a:=D.2;if decide (a.1<D.1)=true then A.ab (0<=a.1/\a.1<Int.ofNat (List.length a.2.2.1)) (A.bind (jv (List.getD a.2.2.1 (Int.toNat a.1) 0,0,100000)) (λy=>if (!y)=true then A.bind (A.bind (A.pure false) (λr=>A.pure (V.done r))) λr=>A.pure (V.done r) else A.pure (V.next (D.1,IntKind.wrap .i64 (Add.add a.1 1),a.2.1,a.2.2.1,())))) else A.bind (A.pure (V.next (a.2.1,()))) λr=>A.pure (V.done r)) (Int.ofNat (Add.add (Add.add (Add.add (Add.add 0 1) 1) 1) 1),0,x,[x.2.2.1,x.2.2.2.1,x.da,x.2.2.2.2.2.2],())) (V.bz (λ(D:pB×Unit)=>A.bind (jv (D.1.1,0,9999)) λy=>A.bind (cr y (jv (D.1.2.1,1,9999)) false) λb3=>A.bind (cr (y&&b3) (jv (D.1.2.2.2.2.1,1,9999)) false) λdF=>A.pure (y&&b3&&dF)))
def WM(akT:a1×Int×Int×Int×Int×Int×Int->A Bool)(x:ba×Option a1):A Bool:=
 A.bind (akT (Option.getD x.2 ([],[],[],[],0,0,0,0,0,0,0),x.1)) λy=>A.pure (!y)
def WN(jv:Int×Int×Int->A Bool)(AD:Int->A Bool)(x:a1×Int×Int×Int×Int×Int×Int):A Bool:=
 letI c:=x.2.2.2.2;letI a:=decide (c.1=1)||decide (c.1=2)&&decide (c.2.2=0);A.bind (cr a (AD x.2.1) false) λy=>A.bind (cr (a&&y) (AD c.2.2) false) λb3=>A.bind (cr (a&&y&&b3) (jv (x.2.2.1,0,IntKind.wrap .i64 (Int.ofNat (List.length x.1.1)-1))) false) λdF=>letI b:=a&&y&&b3&&dF;A.bind (cr b (jv (x.2.2.2.1,0,9999)) false) λgB=>A.bind (cr (b&&gB) (jv (x.da,0,9)) false) λlz=>A.pure (b&&gB&&lz)
def WO(AD:Int->A Bool)(x:Int):A Bool:=
 A.bind (AD x) λy=>A.pure (!y)
def akU(akV:Option (List (Int×ba))->z1'->Prop)(x:List (Int×ba)):A (z1'->Prop):=
 A.pure (akV (some x))
def WQ(gb:Int×Int×Int->A Bool)(x:Int×Int×Int×Int×Int×Int×Int):A Bool:=
 A.bind (gb (x.1,0,9999)) λy=>A.bind (cr y (gb (x.2.1,1,9999)) false) λb3=>A.bind (cr (y&&b3) (gb (x.2.2.2.2.1,1,9999)) false) λdF=>A.bind (cr (y&&b3&&dF) (gb (x.2.2.1,0,100000)) false) λgB=>letI a:=y&&b3&&dF&&gB;A.bind (cr a (gb (x.2.2.2.1,0,100000)) false) λlz=>A.bind (cr (a&&lz) (gb (x.da,0,100000)) false) λvR=>A.bind (cr (a&&lz&&vR) (gb (x.2.2.2.2.2.2,0,100000)) false) λAy=>A.pure (a&&lz&&vR&&Ay)
def WR(gb:Int×Int×Int->A Bool)(x:a1×Int×Int×Int×Int×Int×Int):A Bool:=
 letI b:=x.2.2.2.2;A.bind (gb (x.2.1,0,99)) λy=>A.bind (cr (!(!y)) (gb (x.2.2.1,0,IntKind.wrap .i64 (Int.ofNat (List.length x.1.1)-1))) false) λb3=>A.bind (cr (!(!y||!b3)) (gb (x.2.2.2.1,0,9999)) false) λdF=>letI a:=!y||!b3||!dF;A.bind (cr (!a) (gb (x.da,0,9)) false) λgB=>A.bind (cr (!(a||!gB)) (gb (b.2.2,0,99)) false) λlz=>if (a||!gB||!lz)=true then A.pure false else A.pure (decide (b.1=1)||decide (b.1=2)&&decide (b.2.2=0))
def WS(ayt:Int->A Int)(akW:Int->A Int)(x:Int):A Int:=
 A.bind (akW x) λy=>A.pure y
def akX(x:List ba×(Int×Int×Int×Int×Int×Int->A Bool)):A Int:=
 A.bind (A.loop (λ(D:List ba×(Int×Int×Int×Int×Int×Int->A Bool)×Int×Int×Unit)=>letI a:=D.2.2.2.1;if decide (a<D.2.2.1)=true then A.ab (0<=a/\a<Int.ofNat (List.length D.1)) (A.bind (D.2.1 (List.getD D.1 (Int.toNat a) (0,0,0,0,0,0))) (λy=>if y=true then A.bind (A.bind (A.pure a) (λr=>A.pure (V.done r))) λr=>A.pure (V.done r) else A.pure (V.next (D.1,D.2.1,D.2.2.1,IntKind.wrap .i64 (Add.add a 1),())))) else A.bind (A.pure (V.next ())) λr=>A.pure (V.done r)) (x.1,x.2,Int.ofNat (List.length x.1),0,())) (V.bz (λ(D:Unit)=>A.pure (-1)))
def D8(x:Int):A Int:=
 A.bind (if decide (x>=4294967296)=true then A.ab ((0:Int)<=32) (A.pure (V.next (jj .u64 x 32,32,()))) else A.pure (V.next (x,0,()))) (V.bz (λ(D:Int×Int×Unit)=>A.bind (if decide (D.1>=65536)=true then A.ab ((0:Int)<=16) (A.pure (V.next (jj .u64 D.1 16,IntKind.wrap .i64 (Add.add D.2.1 16),()))) else A.pure (V.next (D.1,D.2.1,()))) (V.bz (λ(D:Int×Int×Unit)=>A.bind (if decide (D.1>=256)=true then A.ab ((0:Int)<=8) (A.pure (V.next (jj .u64 D.1 8,IntKind.wrap .i64 (Add.add D.2.1 8),()))) else A.pure (V.next (D.1,D.2.1,()))) (V.bz (λ(D:Int×Int×Unit)=>letI a:=IntKind.wrap .u8 D.1;A.ab (0<=a/\a<Int.ofNat 256) (A.pure (IntKind.wrap .i64 (Add.add D.2.1 (IntKind.wrap .i64 (Int.ofNat (List.getD akl (Int.toNat a) 0).1.1.1)))))))))))
def WT(x:z1'):A (z1'):=
 A.bind (A.any (λb=>b=true->x=[])) λy=>if y=true then A.pure [] else A.ab (bQ (Add.add 0 (List.length x))) (A.pure ([]++x))
def WU(akY:Int×Int->A Int)(x:bB×ba×Int):A Int:=
 A.bind (akY (x.1.2,x.2.2)) λy=>A.pure y
def WV(WW:Int->A Bool)(x:Int×Int):A Int:=
 A.bind (WW x.1) λy=>A.bind (WW x.2) λb3=>if y=true then if b3=true then A.pure 0 else A.pure (-1) else if b3=true then A.pure 1 else if decide (x.1<x.2)=true then A.pure (-1) else if decide (x.1 > x.2)=true then A.pure 1 else A.pure 0
def WX(x:Int):A Bool:=
 A.pure (decide (x≠x))
def WY(x:(z1'->Prop)×Unit):A (z1'×Unit):=
 A.bind (A.any x.1) λL=>A.bind (jM (λ(D:z1'×Unit) (y:Int)=>A.bind (A.ab (bQ (Add.add (List.length D.1) (Add.add 0 1))) (A.pure (dj.normal,D.1++[y],()))) λp=>A.pure (p.1,p.2.1,())) L ([],())) λp=>sv (A.pure (p.2.1,())) (λid=>if id=0 then A.pure (p.2.1,()) else A.fail) A.fail p.1
def WZ(akZ:(z1'->Prop)×Unit->A (z1'×Unit))(x:(z1'->Prop)×Unit):A (z1'×Unit):=
 A.bind (akZ (x.1,())) λy=>A.pure (y.1,())
def W0(Oe:List ba×(Int×Int×Int×Int×Int×Int->A Bool)->A Int)(x:(Int×Int×Int×Int×Int×Int->A Bool)×List ba×Unit):A ((Nat×Nat)×List ba×Unit):=
 A.bind (Oe (x.2.1,x.1)) λy=>if decide (y=-1)=true then A.pure ((0,List.length x.2.1),x.2.1,()) else A.bind (A.loop (λ(D:(Int×Int×Int×Int×Int×Int->A Bool)×Int×Int×List ba×Unit)=>letI g:=D.2.1;letI f:=D.2.2;letI e:=List.getD f.2.1 (Int.toNat f.1) (0,0,0,0,0,0);letI c:=Int.ofNat (List.length f.2.1);if decide (f.1<c)=true then A.bind (A.ab (0<=f.1/\f.1<c) (A.bind (D.1 e) (λy=>if (!y)=true then A.ab (0<=g/\g<c) (A.pure (V.next (D.1,IntKind.wrap .i64 (Add.add g 1),f.1,List.set f.2.1 (Int.toNat g) e,()))) else A.pure (V.next (D.1,g,f.1,f.2.1,()))))) (V.bz (λ(D:(Int×Int×Int×Int×Int×Int->A Bool)×Int×Int×List ba×Unit)=>A.pure (V.next (D.1,D.2.1,IntKind.wrap .i64 (Add.add D.2.2.1 1),D.2.2.2.1,())))) else A.bind (A.pure (V.next (g,f.2.1,()))) λr=>A.pure (V.done r)) (x.1,y,IntKind.wrap .i64 (Add.add y 1),x.2.1,())) (V.bz (λ(D:Int×List ba×Unit)=>letI d:=Int.toNat D.1;letI b:=Int.ofNat (List.length D.2.1);letI a:=List.take d D.2.1++List.replicate (Int.toNat b-d) (0,0,0,0,0,0)++List.drop (Add.add d (List.length (List.replicate (Int.toNat b-d) ((0,0,0,0,0,0):ba)))) D.2.1;A.ab (0<=D.1/\D.1<=b/\b<=b) (A.ab True (A.ab ((0:Int)<=0/\0<=D.1/\D.1<=Int.ofNat (List.length a)) (A.pure ((Int.toNat 0,d),a,()))))))
def HP(AA:a1×Int×Int->A Int)(x:Nat×Option dR×Option ea×(Nat×(List bB->Prop)×List bB×Bool)×Unit):A ((Nat×(List bB->Prop)×List bB×Bool)×Unit):=
 A.ab (Option.isSome x.2.1=true) (A.loop (λ(D:Nat×Option ea×List (List bB)×Int×(Nat×(List bB->Prop)×List bB×Bool)×Unit)=>letI g:=D.2.2.2;if decide (g.1<10)=true then A.bind (A.ab (0<=g.1/\g.1<Int.ofNat 10) (A.loop (λ(D:Nat×Option ea×List bB×Int×List (List bB)×Int×(Nat×(List bB->Prop)×List bB×Bool)×Unit)=>letI h:=D.ft;letI f:=D.2.2;letI d:=Int.ofNat (List.length f.1);letI i:=0<=f.2.1/\f.2.1<d;letI c:=IntKind.wrap .i64 (Add.add f.2.1 1);letI b:=List.getD f.1 (Int.toNat f.2.1) ((0,0,0,0,0,0),0);letI a:=((Option.getD D.2.1 (([],[],[],[],0,0,0,0,0,0,0),[],[])).1,b.2,(List.getD f.1 (Int.toNat c) ((0,0,0,0,0,0),0)).2);if decide (c<d)=true then A.ab i (A.ab (Option.isSome D.2.1=true) (A.ab i (A.ab (0<=c/\c<d) (A.ab (AA a).cm (A.bind (A.ab (D.1=h.1/\h.2.2.2=false/\(∃ (T:List bB),h.2.1 (h.2.2.1++(b.1,A.val (AA a) 0)::T))) (A.any (λx=>True))) (λy=>letI e:=(h.1,h.2.1,h.2.2.1++[(b.1,A.val (AA a) 0)],!y);if (!y)=true then A.bind (A.bind (A.bind (A.pure (e,())) (λr=>A.pure (V.done r))) (λr=>A.pure (V.done r))) λr=>A.pure (V.done r) else A.pure (V.next (D.1,D.2.1,f.1,IntKind.wrap .i64 (Add.add f.2.1 2),f.2.2.1,D.da,e,())))))))) else A.bind (A.pure (V.next (D.1,D.2.1,f.2.2.1,D.da,h,()))) λr=>A.pure (V.done r)) (D.1,D.2.1,List.getD D.2.2.1 (Int.toNat g.1) [],0,D.2.2.1,g.1,g.2.1,()))) (V.bz (λ(D:Nat×Option ea×List (List bB)×Int×(Nat×(List bB->Prop)×List bB×Bool)×Unit)=>A.pure (V.next (D.1,D.2.1,D.2.2.1,IntKind.wrap .i64 (Add.add D.2.2.2.1 1),D.2.2.2.2.1,())))) else A.bind (A.pure (g.2.1,())) λr=>A.pure (V.done r)) (x.1,x.2.2.1,(Option.getD x.2.1 ([],[[],[],[],[],[],[],[],[],[],[]])).2,0,x.2.2.2.1,()))
def W1(x:Int×Int×(bB×ba×Int->A Int)×List bB×Unit):A (List bB×Unit):=
 A.loop (λ(D:Int×Int×(bB×ba×Int->A Int)×Int×List bB×Unit)=>letI i:=D.2.2.2;if decide (i.1<D.2.1)=true then A.bind (A.loop (λ(D:Int×Int×(bB×ba×Int->A Int)×Int×Int×List bB×Unit)=>letI k:=D.2.2;letI d:=Int.ofNat (List.length D.da);letI c:=k.2.2.1;letI j:=0<=c/\c<d;letI g:=decide (c > D.1);letI f:=List.getD D.da (Int.toNat c) ((0,0,0,0,0,0),0);letI b:=IntKind.wrap .i64 (c-1);letI e:=List.getD D.da (Int.toNat b) ((0,0,0,0,0,0),0);letI h:=List.set D.da (Int.toNat c) e;letI a:=g=true;letI l:=a->a/\True/\True;A.ab (a->(a/\a)/\j/\True) (A.ab l (A.ab (a->(a/\True)/\True/\True) (A.ab (a->(a/\a)/\(0<=b/\b<d)/\True) (A.ab l (A.ab (a->a/\a/\a/\True) (A.bind (cr g (k.1 (f,e)) 0) (λy=>if (g&&decide (y<0))=true then A.ab (0<=b/\b<d) (A.ab j (A.ab j (A.ab (0<=b/\b<Int.ofNat (List.length h)) (A.pure (V.next (D.1,D.2.1,k.1,k.2.1,b,List.set h (Int.toNat b) f,())))))) else A.bind (A.pure (V.next (D.1,D.2.1,k.1,k.2.1,D.da,()))) λr=>A.pure (V.done r))))))))) (D.1,D.2.1,D.2.2.1,i.1,i.1,i.2.1,())) (V.bz (λ(D:Int×Int×(bB×ba×Int->A Int)×Int×List bB×Unit)=>A.pure (V.next (D.1,D.2.1,D.2.2.1,IntKind.wrap .i64 (Add.add D.2.2.2.1 1),D.2.2.2.2.1,())))) else A.bind (A.pure (i.2.1,())) λr=>A.pure (V.done r)) (x.1,x.2.1,x.2.2.1,IntKind.wrap .i64 (Add.add x.1 1),x.2.2.2.1,())
def Of(x:Nat×z4'×(Nat×(z1'->Prop)×z1'×Bool)×Unit):A ((Nat×(z1'->Prop)×z1'×Bool)×Unit):=
 A.bind (A.pure ()) λy=>A.loop (λ(D:Nat×(Nat×(z1'->Prop)×z1'×Bool)×(Option (Int×Int)×z4')×Unit)=>letI c:=D.2.1;letI b:=D.2.2.1;A.bind (Gr b.2) λy=>if Option.isSome y=true then A.bind (A.ab (Option.isSome (nV b.1 b.2 y)=true) (A.pure ())) λb3=>A.bind (A.ab (D.1=c.1/\c.2.2.2=false/\(∃ (T:z1'),c.2.1 (c.2.2.1++Option.getD (Option.map (λx=>x.1) (nV b.1 b.2 y)) 0::T))) (A.any (λx=>True))) λdF=>letI a:=(c.1,c.2.1,c.2.2.1++[Option.getD (Option.map (λx=>x.1) (nV b.1 b.2 y)) 0],!dF);if (!dF)=true then A.bind (A.pure (a,())) λr=>A.pure (V.done r) else A.pure (V.next (D.1,a,(nV b.1 b.2 y,CU b.2 y),())) else A.bind (A.pure (c,())) λr=>A.pure (V.done r)) (x.1,x.2.2.1,(none,x.2.1),())
def Og(x:Nat×List (Int×ba)×(Nat×(z1'->Prop)×z1'×Bool)×Unit):A ((Nat×(z1'->Prop)×z1'×Bool)×Unit):=
 A.bind (A.pure ()) λy=>A.loop (λ(D:Nat×(Nat×(z1'->Prop)×z1'×Bool)×(Option pB×List (Int×ba))×Unit)=>letI c:=D.2.1;letI b:=D.2.2.1;A.bind (Gr b.2) λy=>if Option.isSome y=true then A.bind (A.ab (Option.isSome (nV b.1 b.2 y)=true) (A.pure ())) λb3=>A.bind (A.ab (D.1=c.1/\c.2.2.2=false/\(∃ (T:z1'),c.2.1 (c.2.2.1++Option.getD (Option.map (λx=>x.1) (nV b.1 b.2 y)) 0::T))) (A.any (λx=>True))) λdF=>letI a:=(c.1,c.2.1,c.2.2.1++[Option.getD (Option.map (λx=>x.1) (nV b.1 b.2 y)) 0],!dF);if (!dF)=true then A.bind (A.pure (a,())) λr=>A.pure (V.done r) else A.pure (V.next (D.1,a,(nV b.1 b.2 y,CU b.2 y),())) else A.bind (A.pure (c,())) λr=>A.pure (V.done r)) (x.1,x.2.2.1,(none,x.2.1),())
def ak0(D5:(z1'->Prop)->A (z1'))(Od:List (Int×ba)->A (z1'->Prop))(x:List ba×Unit):A (Bool×List ba×Unit):=
 A.bind (A.loop (λ(D:List ba×Int×Int×List (Int×ba)×Unit)=>letI e:=D.2.2;letI b:=List.getD D.1 (Int.toNat e.1) (0,0,0,0,0,0);letI c:=Option.map (λx=>x.2) (List.find? (λp=>decide (b.1=p.1)) e.2.1);letI a:=Option.getD c (0,0,0,0,0,0);if decide (e.1<D.2.1)=true then A.ab (0<=e.1/\e.1<Int.ofNat (List.length D.1)) (if (Option.isSome c&&!(decide (a.1=b.1)&&(decide (a.2.1=b.2.1)&&(decide (a.2.2.1=b.2.2.1)&&(decide (a.2.2.2.1=b.2.2.2.1)&&(decide (a.2.2.2.2.1=b.2.2.2.2.1)&&decide (a.2.2.2.2.2=b.2.2.2.2.2)))))))=true then A.bind (A.bind (A.pure (false,[],())) (λr=>A.pure (V.done r))) λr=>A.pure (V.done r) else A.pure (V.next (D.1,D.2.1,IntKind.wrap .i64 (Add.add e.1 1),kX e.2.1 b.1 b,()))) else A.bind (A.pure (V.next (e.2.1,()))) λr=>A.pure (V.done r)) (x.1,Int.ofNat (List.length x.1),0,[],())) (V.bz (λ(D:List (Int×ba)×Unit)=>A.bind (A.bind (Od D.1) (λy=>A.bind (D5 y) λy=>A.loop (λ(D:z1'×Int×Int×List ba×List (Int×ba)×Unit)=>letI d:=D.2.2;if decide (d.1<D.2.1)=true then A.ab (0<=d.1/\d.1<Int.ofNat (List.length D.1)) (A.ab (bQ (Add.add (List.length d.2.1) (Add.add 0 1))) (A.pure (V.next (D.1,D.2.1,IntKind.wrap .i64 (Add.add d.1 1),d.2.1++[Option.getD (Option.map (λx=>x.2) (List.find? (λp=>decide (List.getD D.1 (Int.toNat d.1) 0=p.1)) d.2.2.1)) (0,0,0,0,0,0)],d.2.2.1,())))) else A.bind (A.pure (V.next (d.2.1,()))) λr=>A.pure (V.done r)) (y,Int.ofNat (List.length y),0,[],D.1,()))) (V.bz (λ(D:List ba×Unit)=>A.pure (true,D.1,())))))
abbrev lA:Type:=List bB×List bB×List bB×List bB×List bB×List bB×List bB×List bB×List bB×List bB×ho
def mF:Nat->lA->List bB
 | 0,r=>r.1
 | 1,r=>r.2.1
 | 2,r=>r.2.2.1
 | 3,r=>r.2.2.2.1
 | 4,r=>r.2.2.2.2.1
 | 5,r=>r.2.2.2.2.2.1
 | 6,r=>r.2.2.2.2.2.2.1
 | 7,r=>r.2.2.2.2.2.2.2.1
 | 8,r=>r.2.2.2.2.2.2.2.2.1
 | 9,r=>r.2.2.2.2.2.2.2.2.2.1
 | _,_=>[]
def HQ:Nat->List bB->lA->lA
 | 0,v,r=>(v,r.2)
 | 1,v,r=>(r.1,v,r.2.2)
 | 2,v,r=>(r.1,r.2.1,v,r.2.2.2)
 | 3,v,r=>(r.1,r.2.1,r.2.2.1,v,r.2.2.2.2)
 | 4,v,r=>(r.1,r.2.1,r.2.2.1,r.2.2.2.1,v,r.2.2.2.2.2)
 | 5,v,r=>(r.1,r.2.1,r.2.2.1,r.2.2.2.1,r.2.2.2.2.1,v,r.2.2.2.2.2.2)
 | 6,v,r=>(r.1,r.2.1,r.2.2.1,r.2.2.2.1,r.2.2.2.2.1,r.2.2.2.2.2.1,v,r.2.2.2.2.2.2.2)
 | 7,v,r=>(r.1,r.2.1,r.2.2.1,r.2.2.2.1,r.2.2.2.2.1,r.2.2.2.2.2.1,r.2.2.2.2.2.2.1,v,r.2.2.2.2.2.2.2.2)
 | 8,v,r=>(r.1,r.2.1,r.2.2.1,r.2.2.2.1,r.2.2.2.2.1,r.2.2.2.2.2.1,r.2.2.2.2.2.2.1,r.2.2.2.2.2.2.2.1,v,r.2.2.2.2.2.2.2.2.2)
 | 9,v,r=>(r.1,r.2.1,r.2.2.1,r.2.2.2.1,r.2.2.2.2.1,r.2.2.2.2.2.1,r.2.2.2.2.2.2.1,r.2.2.2.2.2.2.2.1,r.2.2.2.2.2.2.2.2.1,v,r.2.2.2.2.2.2.2.2.2.2)
 | _,_,r=>r
abbrev W2(r:lA):ho:=r.2.2.2.2.2.2.2.2.2.2
def Oh{X:Type}(l:List bB)(x:bB)(i k:Int)(aM B:A X):A X:=
 letI z:=decide (i > 0);letI y:=IntKind.wrap .i64 (i-1);letI n:=decide (x.1.2.2.2.1≠k);letI m:=(!n)=true;letI b:=(!n&&z)=true;letI c:=b->b/\True/\True;A.ab (m->(m/\True)/\True/\True) (A.ab (m->True/\True/\m) (A.ab c (A.ab (b->(b/\True)/\True/\True) (A.ab (b->(b/\b)/\(0<=y/\y<Int.ofNat (List.length l))/\True) (A.ab c (A.ab c (A.ab (b->(b/\b)/\True/\True) (A.ab (m->(m/\(z=true->b))/\True/\True) (A.ab (True/\(n=false->m)) (if (n||z&&decide (x.2=(List.getD l (Int.toNat y) ((0,0,0,0,0,0),0)).2))=true then aM else B))))))))))
def HR(k:Nat)(D:Int×Int×Int×z1'×lA):A (V (Int×Int×Int×z1'×lA) (V (Int×z1'×lA) (V (z1'×lA) (Option dR×Bool×ho)))):=
 letI i:=D.2.2.1;letI l:=mF k D.2.2.2.2;letI x:=List.getD l (Int.toNat i) ((0,0,0,0,0,0),0);if decide (i<D.2.1)=true then A.ab (0<=i/\i<Int.ofNat (List.length l)) (A.bind (A.ab ((2:Int)≠0) (if decide (Int.tmod i (2:Int)=1)=true then A.pure (V.next (i,2,D.1,D.2.1,i,x,D.2.2.2)) else A.pure (V.next (i,1,D.1,D.2.1,i,x,D.2.2.2)))) (V.bz (λ(bn:Int×Int×Int×Int×Int×bB×z1'×lA)=>letI r:=bn.2.2.2.2.2.2.2;Oh (mF k r) bn.2.2.2.2.2.1 bn.1 bn.2.1 (A.bind (A.bind (A.bind (A.pure (none,false,W2 r)) (λr=>A.pure (V.done r))) (λr=>A.pure (V.done r))) λr=>A.pure (V.done r)) (A.pure (V.next (bn.2.2.1,bn.2.2.2.1,IntKind.wrap .i64 (Add.add bn.2.2.2.2.1 1),bn.2.2.2.2.2.2)))))) else A.bind (A.pure (V.next (D.1,D.2.2.2))) λr=>A.pure (V.done r)
def D9(W3:(bB×ba×Int->A Int)×List bB×Unit->A (List bB×Unit))(W4:bB×ba×Int->A Int):Nat->Nat->z1'×lA->A (V (z1'×lA) (Option dR×Bool×ho))
 | 0,_,s=>A.pure (.next s)
 | n+1,k,s=>A.bind (A.ab (0<=Int.ofNat k/\Int.ofNat k<Int.ofNat 10) (A.bind (W3 (W4,mF k s.2,())) (λy=>A.loop (HR k) (Int.ofNat k,Int.ofNat (List.length y.1),0,s.1,HQ k y.1 s.2)))) (V.bz (λ(bn:Int×z1'×lA)=>A.ab (IntKind.wrap .i64 (Add.add bn.1 1)=Int.ofNat (k+1)) (D9 W3 W4 n (k+1) bn.2)))
def HS{X:Type}(f:Nat->A X)(v:Int):Nat->A X
 | 0=>f 0
 | n+1=>if v=Int.ofNat (Add.add n 1) then f (n+1) else HS f v n
def W5{X:Type}(D:z1'×List ba×Int×Int×z1'×lA)(u:Nat):A (V (z1'×List ba×Int×Int×z1'×lA) X):=
 letI a:=List.getD D.2.1 (Int.toNat D.2.2.2.1) (0,0,0,0,0,0);letI r:=D.2.2.2.2.2;letI p:=0<=Int.ofNat u/\Int.ofNat u<Int.ofNat 10;A.ab True (A.ab p (A.ab (0<=a.2.1/\a.2.1<Int.ofNat (List.length D.1)) (A.ab (bQ (Add.add (List.length (mF u r)) (Add.add 0 1))) (A.ab True (A.ab p (A.pure (V.next (D.1,D.2.1,D.2.2.1,D.2.2.2.1,D.2.2.2.2.1,HQ u (mF u r++[((a.1,a.2.1,a.2.2.1,a.2.2.2.1,Int.ofNat u,a.2.2.2.2.2),IntKind.wrap .i64 (Add.add a.2.2.1 (List.getD D.1 (Int.toNat a.2.1) 0)))]) r))))))))
def W6(ak1:z1'->A (z1'))(ak2:(bB×ba×Int->A Int)×List bB×Unit->A (List bB×Unit))(ak3:bB×ba×Int->A Int)(x:z1'×ho):A (Option dR×Bool×ho):=
 A.bind (A.bind (ak1 x.1) (λy=>A.pure (V.next (x.1,y,x.2.1,x.2.2.1,x.2.2.2.1,x.2.2.2.2.1,x.da,x.ft,x.gP,x.ir,x.jR,x.kY,x.hN,x.nh,x.pC,[],[],[],[],[],[],[],[],[],[],())))) (V.bz (λ(D:z1'×z1'×z4'×List ba×z1'×z4'×Int×Int×Int×Int×Int×Int×Int×List ba×List (Option dR)×List bB×List bB×List bB×List bB×List bB×List bB×List bB×List bB×List bB×List bB×Unit)=>A.bind (A.ab True (A.loop (λ(D:z1'×List ba×Int×Int×z1'×lA)=>letI a:=List.getD D.2.1 (Int.toNat D.2.2.2.1) (0,0,0,0,0,0);letI u:=a.2.2.2.2.1;if decide (D.2.2.2.1<D.2.2.1)=true then A.bind (A.ab (0<=D.2.2.2.1/\D.2.2.2.1<Int.ofNat (List.length D.2.1)) (A.ab (0<=u/\u<Int.ofNat 10) (HS (W5 D) u 9))) (V.bz (λ(D:z1'×List ba×Int×Int×z1'×lA)=>A.pure (V.next (D.1,D.2.1,D.2.2.1,IntKind.wrap .i64 (Add.add D.2.2.2.1 1),D.2.2.2.2)))) else A.bind (A.pure (V.next D.2.2.2.2)) λr=>A.pure (V.done r)) (D.1,D.pC,Int.ofNat (List.length D.pC),0,D.2.1,D.x',D.DZ,D.D0,D.D1,D.D2,D.N6,D.N7,D.N8,D.rC,D.D3,D.2.2.1,D.2.2.2.1,D.2.2.2.2.1,D.da,D.ft,D.gP,D.ir,D.jR,D.kY,D.hN,D.nh,D.pC,D.sO,()))) (V.bz (λ(D:z1'×lA)=>A.bind (A.ab True (A.ab (0=Int.ofNat 0) (D9 ak2 ak3 10 0 D))) (V.bz (λ(D:z1'×lA)=>A.pure (some (D.1,[mF 0 D.2,mF 1 D.2,mF 2 D.2,mF 3 D.2,mF 4 D.2,mF 5 D.2,mF 6 D.2,mF 7 D.2,mF 8 D.2,mF 9 D.2]),true,W2 D.2)))))))
def W7(ak4:Int×Int×(bB×ba×Int->A Int)×List bB×Unit->A (List bB×Unit))(x:Int×Int×Int×(bB×ba×Int->A Int)×List bB×Unit):A (List bB×Unit):=
 A.loop (λ(D:Int×Int×Int×(bB×ba×Int->A Int)×Bool×Bool×List bB×Unit)=>if decide (IntKind.wrap .i64 (D.2.1-D.1)<=12)=true then A.bind (ak4 (D.1,D.2.1,D.2.2.2.1,D.ft,())) λy=>A.bind (A.pure (y.1,())) λr=>A.pure (V.done r) else A.fail) (x.1,x.2.1,x.2.2.1,x.2.2.2.1,true,true,x.2.2.2.2.1,())
def W8(N':z1'×ho->A (ho))(ak5:z1'×ho->A (Option dR×Bool×ho))(x:z1'×ho):A (ho):=
 letI d:=Int.ofNat (List.length x.2.1);letI a:=Int.ofNat (List.length x.1);A.ab True (if decide (a=d)=true then A.bind (A.bind (ak5 (x.1,x.2.1,x.2.2.1,x.2.2.2.1,x.2.2.2.2.1,x.da,x.ft,x.gP,x.ir,x.jR,x.kY,x.hN,x.nh,x.pC,())) (λy=>if y.2.1=true then A.ab True (A.ab (bQ (Add.add (List.length y.sO) (Add.add 0 1))) (A.ab True (A.pure (V.next (y.2.2.1,y.2.2.2.1,y.2.2.2.2.1,y.da,y.ft,y.gP,y.ir,y.jR,y.kY,y.hN,y.nh,y.pC,y.sO++[y.1],()))))) else A.pure (V.next (y.2.2.1,y.2.2.2.1,y.2.2.2.2.1,y.da,y.ft,y.gP,y.ir,y.jR,y.kY,y.hN,y.nh,y.pC,y.sO,())))) (V.bz (λ(D:ho)=>A.pure (D.1,D.2.1,D.2.2.1,D.2.2.2.1,D.2.2.2.2.1,D.da,D.ft,D.gP,D.ir,D.jR,D.kY,D.hN,D.nh,()))) else A.ab True (A.ab (0<=a/\a<d) (A.loop (λ(D:z1'×Int×Int×ho)=>letI c:=D.2.2;letI b:=D.2.1;letI e:=List.take (Int.toNat b) D.1;A.ab True (A.ab (0<=b/\b<Int.ofNat (List.length c.2.1)) (if decide (c.1<=(List.getD c.2.1 (Int.toNat b) (0,0)).2)=true then A.ab ((0:Int)<=0/\0<=b/\b=b/\b<=Int.ofNat (List.length D.1)) (A.ab (0<Add.add 0 1/\bQ (Add.add (List.length e) (Add.add 0 1))) (A.bind (N' (e++[c.1],c.2.1,c.2.2.1,D.da,D.ft,D.gP,D.ir,D.jR,D.kY,D.hN,D.nh,D.pC,D.sO,D.x',())) (λy=>A.pure (V.next (D.1,b,IntKind.wrap .i64 (Add.add c.1 1),y.1,y.2.1,y.2.2.1,y.2.2.2.1,y.2.2.2.2.1,y.da,y.ft,y.gP,y.ir,y.jR,y.kY,y.hN,y.nh,()))))) else A.bind (A.pure (c.2.1,c.2.2.1,D.da,D.ft,D.gP,D.ir,D.jR,D.kY,D.hN,D.nh,D.pC,D.sO,D.x',())) λr=>A.pure (V.done r)))) (x.1,a,(List.getD x.2.1 (Int.toNat a) (0,0)).1,x.2.1,x.2.2.1,x.2.2.2.1,x.2.2.2.2.1,x.da,x.ft,x.gP,x.ir,x.jR,x.kY,x.hN,x.nh,x.pC,()))))
def W9(ak6:Int->A Int)(ak7:Int×Int×Int×(bB×ba×Int->A Int)×List bB×Unit->A (List bB×Unit))(x:(bB×ba×Int->A Int)×List bB×Unit):A (List bB×Unit):=
 letI a:=Int.ofNat (List.length x.2.1);A.bind (ak6 (IntKind.wrap .u64 a)) λy=>A.bind (ak7 (0,a,y,x.1,x.2.1,())) λy=>A.pure (y.1,())
end Go.Fer.H
namespace Go.Fer.H
open A (V)
abbrev bw:ad:=.int .i64
abbrev de:ad:=.bool
abbrev fF:ad:=.slice bw
abbrev mG:ad:=.st (.az bw bw)
abbrev Oi:ad:=.st (.az bw (.az bw (.az bw (.az bw (.az bw (.az bw bw))))))
abbrev iO:ad:=.st (.az (.slice mG) (.az (.slice hp) (.az fF (.az (.slice mG) Oi))))
abbrev HT:ad:=.st (.az hp bw)
abbrev ya:ad:=.st (.az fF (.array 10 (.slice HT)))
abbrev sQ:ad:=.st (.az iO (.az (.slice hp) (.slice (.bI ya))))
attribute [simp] qw Vo vN A.dv A.Fo A.Rj A.gA A.fC A.mD A.jd A.kF A.bZ A.py cj hY No V.hn
section
variable {ak:Type}
def yb(d:ak)(x:List ak×(ak->A Bool)):A Int:=
 A.bind (A.loop (λ(D:List ak×(ak->A Bool)×Int×Int×Unit)=>if decide (D.2.2.2.1<D.2.2.1)=true then A.ab (0<=D.2.2.2.1/\
 D.2.2.2.1<Int.ofNat (List.length D.1)) (A.bind (D.2.1 (List.getD D.1 (Int.toNat D.2.2.2.1) d)) λy=>if y=true then A.bind (A.bind (A.pure
 D.2.2.2.1) λr=>A.pure (V.done r)) λr=>A.pure (V.done r) else A.pure (V.next (D.1,D.2.1,D.2.2.1,IntKind.wrap .i64 (Add.add
 D.2.2.2.1 1),()))) else A.bind (A.pure (V.next ())) λr=>A.pure (V.done r)) (x.1,x.2,Int.ofNat (List.length x.1),0,())) (V.bz λ(D
 : Unit)=>A.pure (-1))
def D_(c:List ak×(ak->A Bool)->A Int)(x:List ak×(ak->A Bool)):A Bool:=A.bind (c x) λy=>A.pure (decide (y>=0))
def hO(p:ak->Bool):List ak->Int->Int
 | [],_=>-1
 | x::l,i=>if p x=true then i else hO p l (i+1)
theorem AE(p:ak->Bool):∀ (l:List ak) (i:Int),0<=i->(decide (hO p l i>=0))=l.any p
 | [],i,_=>by rfl
 | x::l,i,h=>by
  simp only[hO,List.any_cons];by_cases ah:p x=true
  ·grind
  ·have:=AE p l (i+1) (by omega);grind
theorem AF(p:ak->Bool):∀ (l:List ak) (i:Int),eZ (λx (i:Int)=>if p x=true then (.done (.done i):V Int (V Unit Int)) else .next (i+1)) (λ_=>.next ()) l i=if l.any p=true then .done (hO p l i) else .next ()
 | [],i=>by rfl
 | x::l,i=>by
  simp only[eZ,List.any_cons,hO];by_cases ah:p x=true
  ·grind
  ·have:=AF p l (i+1);grind
theorem D'{p:ak->Bool}:∀ (l:List ak) (i:Int),¬l.any p=true->hO p l i=-1
 | [],_,_=>rfl
 | x::l,i,aB=>by
  simp only[List.any_cons,Bool.or_eq_true,not_or]at aB;simp only[hO,aB.1,Bool.false_eq_true,if_false];exact D' l _ aB.2
theorem Oj(d:ak)(l:List ak)(f:ak->A Bool)(h:l.length<2 ^ 63)(aq:∀ y∈l,∃ b,f y=A.pure b):yb d (l,f)=A.pure (hO (λy=>(f y).val false) l 0):=by
 unfold yb;rw[A.f' l (λi (b:Int)=>(l,f,(l.length:Int),b,())) (λy (i:Int)=>if (f y).val false=true then (.done (.done i):V Int (V Unit Int)) else .next (i+1)) (λ_=>.next ()) (λi b=>b=(i:Int)) 0 ?_ ?_ ?_ ?_]
 ·rw[AF (λy=>(f y).val false)];by_cases bb:(l.any λy=>(f y).val false)=true
  ·simp[bb]
  ·have:hO (λy=>(f y).val false) l 0=-1:=by
    have:∀ (l:List ak) (i:Int),¬(l.any λy=>(f y).val false)=true->hO (λy=>(f y).val false) l i=-1:=by
     intro l;induction l with
     | nil=>intro i _;rfl
     | cons x l aK=>
      intro i aB;simp only[List.any_cons,Bool.or_eq_true,not_or]at aB;simp only[hO,aB.1,Bool.false_eq_true,if_false];grind
    grind
   simp[bb,this]
 ·rfl
 ·rfl
 ·intro i G b W;subst W;have hw:=bA (n:=(i:Int)+1) (by omega) (by omega);refine⟨?_,λbf dc=>?_⟩
  ·obtain⟨b,W⟩:=aq _ (List.getElem_mem G);simp only[bW,cV G,if_true,dh G,cN G,A.bq,W,A.fC,A.aG,cj,hw];split<;>rfl
  grind
 simp
end
abbrev k0(e:ad):aL:=⟨.az (.slice e) (.fn e .bool),bw,λx=>x.1.length<2 ^ 63/\∀ y∈x.1,∃ b,x.2 y=A.pure b,λx=>hO (λy=>(x.2 y).val false) x.1 0⟩
theorem sR(e:ad)(x):A.le (yb e.df x) ((k0 e).sh x):=A.br λh=>Oj e.df x.1 x.2 h.1 h.2
abbrev je(e:ad):aL:=⟨.az (.slice e) (.fn e .bool),de,λx=>x.1.length<2 ^ 63/\∀ y∈x.1,∃ b,x.2 y=A.pure b,λx=>x.1.any λy=>(x.2 y).val false⟩
theorem sS(e:ad)(x):A.le (D_ (k0 e).sh x) ((je e).sh x):=A.br λh=>by
 unfold D_;simp only[aL.sh,k0,A.dv];rw[A.bu (by exact h)];exact congrArg A.pure (AE (λy=>(x.2 y).val false) x.1 0 (by omega))
abbrev lB(s:ba):Int:=s.1
abbrev pD(s:ba):Int:=s.2.1
abbrev yc(s:ba):Int:=s.2.2.1
abbrev ep(s:ba):Int:=s.2.2.2.1
abbrev uu(s:ba):Int:=s.2.2.2.2.1
abbrev iP(s:ba):Int:=s.2.2.2.2.2
def iy(c:a1):Prop:=c.1.length<2 ^ 63/\c.2.1.length<2 ^ 63/\c.2.2.1.length<2 ^ 63/\c.2.2.2.1.length<2 ^ 63
def b4(n aZ G:Int):Bool:=decide (aZ<=n)&&decide (n<=G)
theorem oU{n aZ G:Int}:b4 n aZ G=true<->aZ<=n/\n<=G:=by simp[b4]
def pE(t:pB):Bool:=b4 t.1 0 9999&&b4 t.2.1 1 9999&&b4 t.2.2.2.2.1 1 9999&&b4 t.2.2.1 0 100000&&b4 t.2.2.2.1 0 100000&&b4 t.2.2.2.2.2.1 0 100000&&b4 t.2.2.2.2.2.2 0 100000
def lC(n:Nat)(s:ba):Bool:=b4 (lB s) 0 99&&b4 (pD s) 0 ((n:Int) - 1)&&b4 (yc s) 0 9999&&b4 (uu s) 0 9&&b4 (iP s) 0 99&&(decide (ep s=1)||decide (ep s=2)&&decide (iP s=0))
abbrev cg:aL:=⟨.az bw (.az bw bw),de,λ_=>True,λx=>b4 x.1 x.2.1 x.2.2⟩
theorem ak8(x):A.le (WE cg.sh x) (cg.sh x):=A.br λ_=>by
 unfold WE;simp[aL.sh,cg]
theorem ak9(x):A.le (akB x) (cg.sh x):=A.br λ_=>rfl
abbrev yd:aL:=⟨bw,de,λ_=>True,λx=>b4 x 0 9999⟩
theorem ak_(x):A.le (Wo cg.sh x) (yd.sh x):=A.br λ_=>by
 unfold Wo;simp[aL.sh,cg]
abbrev vT:aL:=⟨bw,de,λ_=>True,λx=>b4 x 0 99⟩
theorem ak'(x):A.le (Wy cg.sh x) (vT.sh x):=A.br λ_=>by
 unfold Wy;simp[aL.sh,cg]
abbrev vU:aL:=⟨Oi,de,λ_=>True,λx=>pE x⟩
theorem ala(x):A.le (WQ cg.sh x) (vU.sh x):=A.br λ_=>by
 unfold WQ;show _=A.pure (pE x);unfold pE;simp only[aL.sh,cg,A.nI,A.aG,A.kF];simp
theorem alb(x):A.le (WL cg.sh x) (vU.sh x):=A.br λ_=>by
 unfold WL;rw[A.du [x.2.2.1,x.2.2.2.1,x.2.2.2.2.2.1,x.2.2.2.2.2.2] (λi (_:Unit)=>(4,(i:Int),x,[x.2.2.1,x.2.2.2.1,x.2.2.2.2.2.1,x.2.2.2.2.2.2],())) (λy b=>if (!b4 y 0 100000)=true then .done (.done false) else .next b) (λ_=>.next (x,())) () ?_ ?_ ?_]
 ·rw[kh (q:=λy=>b4 y 0 100000) _ _ (λ_=>rfl)];show _=A.pure (pE x);unfold pE;simp only[List.all_cons,List.all_nil,Bool.and_true,aL.sh,cg,A.nI,A.aG,A.kF];cases E:b4 x.1 0 9999<;>cases U:b4 x.2.1 1 9999<;>cases ag:b4 x.2.2.2.2.1 1 9999<;>cases b4 x.2.2.1 0 100000<;>cases b4 x.2.2.2.1 0 100000<;>cases b4 x.2.2.2.2.2.1 0 100000<;>cases b4 x.2.2.2.2.2.2 0 100000<;>simp[E,U,ag]
 ·rfl
 ·intro i G b;have dL:i<4:=by omega
  have hw:=bA (n:=(i:Int)+1) (by omega) (by omega);have E:decide ((i:Int)<4)=true:=by grind
  simp only[E,if_true,bW,dh G,cN G,A.bq,aL.sh,cg,A.nI,A.aG,cj,hw];exact l3 (mk:=λ(_:Unit)=>((4:Int),((i+1:Nat):Int),x,[x.2.2.1,x.2.2.2.1,x.2.2.2.2.2.1,x.2.2.2.2.2.2],()))
 simp
abbrev vV:aL:=⟨.az iO hp,de,λx=>x.1.1.length<2 ^ 63,λx=>lC x.1.1.length x.2⟩
theorem alc(x):A.le (WR cg.sh x) (vV.sh x):=A.br λh=>by
 have hw:=bA (n:=(x.1.1.length:Int) - 1) (by omega) (by omega);unfold WR;show _=A.pure (lC x.1.1.length x.2);unfold lC;simp only[aL.sh,cg,A.nI,A.aG,A.kF,bW,hw];grind
theorem ald(x):A.le (WN cg.sh vT.sh x) (vV.sh x):=A.br λh=>by
 have hw:=bA (n:=(x.1.1.length:Int) - 1) (by omega) (by omega);unfold WN;show _=A.pure (lC x.1.1.length x.2);unfold lC;simp only[aL.sh,cg,vT,A.nI,A.aG,A.kF,bW,hw];grind
abbrev Ea:aL:=⟨.az hp (.bI iO),de,λx=>∃ c:a1,x.2=some c/\c.1.length<2 ^ 63,λx=>!lC (x.2.getD ([],[],[],[],0,0,0,0,0,0,0)).1.length x.1⟩
theorem ale(x):A.le (WM vV.sh x) (Ea.sh x):=A.br λh=>by
 obtain⟨s,o⟩:=x;obtain⟨c,hc,h⟩:=h;change o=some c at hc;subst hc;unfold WM;simp only[Option.getD_some,aL.sh,vV,A.dv];simp_all
abbrev AG:aL:=⟨bw,de,λ_=>True,λx=>!b4 x 0 99⟩
theorem alf(x):A.le (WO vT.sh x) (AG.sh x):=A.br λ_=>by
 unfold WO;simp[aL.sh,vT]
theorem W_(a b:ba):(decide (a.1=b.1)&&(decide (a.2.1=b.2.1)&&(decide (a.2.2.1=b.2.2.1)&&(decide (a.2.2.2.1=b.2.2.2.1)&&(decide (a.2.2.2.2.1=b.2.2.2.2.1)&&decide (a.2.2.2.2.2=b.2.2.2.2.2))))))=decide (a=b):=by
 grind
def uv(a b:ba):Bool:=decide (lB a=lB b)&&!decide (a=b)
abbrev HU:aL:=⟨.az hp hp,de,λ_=>True,λx=>uv x.1 x.2⟩
theorem alg(x):A.le (WD x) (HU.sh x):=A.br λ_=>by
 have h:=W_ x.1 x.2;unfold WD;show _=A.pure (uv x.1 x.2);unfold uv;grind
abbrev mH:aL:=⟨.az fF bw,de,λx=>x.1.length<2 ^ 63,λx=>x.1.contains x.2⟩
theorem alh(x):A.le (akX x) ((k0 hp).sh x):=sR hp x
theorem ali(x):A.le (akR (k0 hp).sh x) ((je hp).sh x):=sS hp x
abbrev oV:aL:=⟨fF,fF,λx=>x.length<=3000000,λx=>x⟩
theorem gf{n:Nat}(h:n<65536):bQ n:=by unfold bQ;omega
theorem alj(x):A.le (WT x) (oV.sh x):=A.sK λh=>by
 unfold WT;rw[A.gh];refine⟨⟨false,by simp⟩,λb W=>?_⟩;change b=true->x=[]at W;cases b with
 | true=>rw[W rfl];exact A.eb.2 rfl
 | false=>
  simp only[Bool.false_eq_true,if_false];exact A.kM.2 ⟨by change List.length x<=3000000 at h;simp only[hY,bQ];omega,A.eb.2 (by simp)⟩
abbrev HV(c:a1):Prop:=c.1.length<=20/\c.2.1.length<=40/\c.2.2.1.length<=60/\c.2.2.2.1.length<=40
abbrev vW:aL:=⟨iO,iO,HV,λx=>x⟩
theorem Ol(x):A.le (Wd x) (vW.sh x):=A.br λh=>by
 obtain⟨E,U,ag,a6⟩:=h;unfold Wd;rw[A.bu (gf (by grind)),A.bu (gf (by grind)),A.bu (gf (by grind)),A.bu (gf (by grind))];simp
abbrev HW:aL:=⟨bw,de,λ_=>True,λ_=>false⟩
theorem alk(x):A.le (WX x) (HW.sh x):=A.br λ_=>by simp[WX]
abbrev HX:aL:=⟨.az bw bw,bw,λ_=>True,λx=>if x.1<x.2 then -1 else if x.1 > x.2 then 1 else 0⟩
theorem alm(x):A.le (WV HW.sh x) (HX.sh x):=A.br λ_=>by
 unfold WV;simp only[aL.sh,HW,A.nI,A.aG,Bool.false_eq_true,if_false,decide_eq_true_eq];grind
abbrev l7:aL:=⟨.az HT HT,bw,λ_=>True,λx=>if x.1.2<x.2.2 then -1 else if x.1.2 > x.2.2 then 1 else 0⟩
theorem aln(x):A.le (WU HX.sh x) (l7.sh x):=A.br λ_=>by
 unfold WU;simp only[aL.sh,HX,A.nI,A.aG]
abbrev Om:aL:=⟨.int .u64,bw,λx=>0<=x/\x<=12,λx=>(D8 x).val 0⟩
theorem alo(x):A.le (D8 x) (Om.sh x):=A.br λh=>by
 have key:∃ v,D8 x=A.pure v:=by
  change Int at x;change (0:Int)<=x/\x<=12 at h;unfold D8;have ax:¬(x>=4294967296):=by omega
  have aO:¬(x>=65536):=by omega
  have cF:¬(x>=256):=by omega
  have ee:IntKind.wrap .u8 x=x:=by
   show (if (false&&decide (x % 2 ^ 8>=(2 ^ (8 - 1):Int)))=true then x % 2 ^ 8 - 2 ^ 8 else x % 2 ^ 8)=x;grind
  have ld:0<=x/\x<Int.ofNat 256:=⟨h.1,by grind⟩
  simp only[decide_eq_true_eq,ax,aO,cF,if_false,A.aG,A.bZ,ee,A.bu ld];grind
 obtain⟨v,ae⟩:=key;simp_all
abbrev On:aL:=⟨.int .u64,bw,λx=>0<=x/\x<=12,λx=>(D8 x).val 0⟩
theorem alp(f)(x):A.le (WS f Om.sh x) (On.sh x):=A.br λh=>by
 unfold WS;simp only[aL.sh,A.dv];simp_all
end Go.Fer.H
namespace Go.Fer.H
open A (V)
section
variable {ak:Type} (d:ak) (lt:ak->ak->Bool)
def vY(l:List ak):Nat->List ak
 | 0=>l
 | k+1=>if lt (l.getD (k+1) d) (l.getD k d)=true then vY ((l.set (k+1) (l.getD k d)).set k (l.getD (k+1) d)) k else l
def pF(e:ak):List ak->List ak
 | []=>[e]
 | a::r=>if lt e a=true then a::pF e r else e::a::r
def uw(l:List ak):List ak:=l.foldl (λr e=>pF lt e r) []
def fu(l:List ak):List ak:=(uw lt l).reverse
theorem W':∀ (r:List ak) (e:ak) (R:List ak),vY d lt (r.reverse++e::R) r.length=(pF lt e r).reverse++R
 | [],e,R=>rfl
 | a::r,e,R=>by
  have ax:((a::r).reverse++e::R).getD (r.length+1) d=e:=by
   simp
  have aO:((a::r).reverse++e::R).getD r.length d=a:=by
   simp
  show vY d lt ((a::r).reverse++e::R) (r.length+1)=_;unfold vY;rw[ax,aO];unfold pF;split
  ·have cF:(((a::r).reverse++e::R).set (r.length+1) a).set r.length e=r.reverse++e::(a::R):=by
    simp
   rw[cF,W' r e (a::R)];simp
  ·simp
theorem Oo(e:ak):∀ r:List ak,(pF lt e r).Perm (e::r)
 | []=>.refl _
 | a::r=>by
  unfold pF;split
  ·exact ((Oo e r).cons a).trans (List.Perm.swap e a r)
  rfl
theorem Xa:∀ (l r:List ak),(l.foldl (λr e=>pF lt e r) r).Perm (l++r)
 | [],r=>.refl _
 | x::l,r=>by
  simp only[List.foldl_cons];refine (Xa l _).trans ?_;refine ((Oo lt x r).append_left l).trans ?_;simp
theorem Xb(l:List ak):(uw lt l).Perm l:=by
 have:=Xa lt l [];rwa [List.append_nil]at this
theorem Eb(l:List ak):(fu lt l).Perm l:=(List.reverse_perm _).trans (Xb lt l)
theorem Xc(l:List ak):(uw lt l).length=l.length:=(Xb lt l).length_eq
theorem HY(l:List ak):(fu lt l).length=l.length:=(Eb lt l).length_eq
theorem Xd{l:List ak}{x:ak}:x∈fu lt l<->x∈l:=(Eb lt l).mem_iff
theorem alq(l:List ak)(e:ak):uw lt (l++[e])=pF lt e (uw lt l):=by simp[uw]
def qz(l:List ak)(n:Nat):List ak:=(uw lt (l.take n)).reverse++l.drop n
theorem alr(l:List ak):qz lt l 1=l:=by
 cases l with
 | nil=>rfl
 | cons x l=>rfl
theorem als(l:List ak):qz lt l l.length=fu lt l:=by simp[qz,fu]
theorem alu(l:List ak)(n:Nat)(h:n<=l.length):(qz lt l n).length=l.length:=by
 simp[qz,Xc,Nat.min_eq_left h];omega
theorem alv{l:List ak}{n:Nat}(h:n<l.length):vY d lt (qz lt l n) n=qz lt l (n+1):=by
 have ax:(uw lt (l.take n)).length=n:=by rw[Xc];grind
 have:=W' d lt (uw lt (l.take n)) l[n] (l.drop (n+1));rw[ax]at this;unfold qz;rw[List.drop_eq_getElem_cons h,this,List.take_add_one,List.getElem?_eq_getElem h,Option.toList_some,alq]
theorem Oq(cc:∀ a b,lt a b=false->lt b a=true\/lt b a=false)(aW:∀ a b c:ak,lt a b=false->lt b c=false->lt a c=false)(Xe:∀ a b,lt a b=true->lt b a=false)(e:ak):∀ r:List ak,r.Pairwise (λa b=>lt a b=false)->(pF lt e r).Pairwise (λa b=>lt a b=false)
 | [],_=>by simp[pF]
 | a::r,h=>by
  rw[List.pairwise_cons]at h;unfold pF;split
  ·rename_i he;refine List.pairwise_cons.2 ⟨λx ah=>?_,Oq cc aW Xe e r h.2⟩;rcases List.mem_cons.1 ((Oo lt e r).mem_iff.1 ah) with rfl | ah
   ·exact Xe _ _ he
   ·exact h.1 x ah
  ·rename_i he;have he:lt e a=false:=by grind
   refine List.pairwise_cons.2 ⟨λx ah=>?_,List.pairwise_cons.2 h⟩;grind
end
def hr(a b:Int):Bool:=decide (a<b)
def hZ(a b:bB):Bool:=decide (a.2<b.2)
theorem Xf:∀ (l r:z1'),r.Pairwise (λa b=>hr a b=false)->(l.foldl (λr e=>pF hr e r) r).Pairwise (λa b=>hr a b=false)
 | [],r,h=>h
 | x::l,r,h=>Xf l _ (Oq hr (λa b _=>by simp) (λa b c E U=>by simp[hr]at *;omega) (λa b h=>by simp[hr]at *;omega) x r h)
theorem Ot(l:z1'):(fu hr l).Pairwise (·<=·):=by
 have:=Xf l [] .nil;unfold fu;rw[List.pairwise_reverse];exact this.imp λh=>by simp[hr]at h;exact h
theorem Xg:∀ (l r:List bB),r.Pairwise (λa b=>hZ a b=false)->(l.foldl (λr e=>pF hZ e r) r).Pairwise (λa b=>hZ a b=false)
 | [],r,h=>h
 | x::l,r,h=>Xg l _ (Oq hZ (λa b _=>by simp) (λa b c E U=>by simp[hZ]at *;omega) (λa b h=>by simp[hZ]at *;omega) x r h)
theorem alw(l:List bB):(fu hZ l).Pairwise λa b=>a.2<=b.2:=by
 have:=Xg l [] .nil;unfold fu;rw[List.pairwise_reverse];exact this.imp λh=>by simp[hZ]at h;exact h
theorem AH{l m:z1'}(h:m.Pairwise (·<=·))(ao:l.Perm m):fu hr l=m:=
 List.Perm.eq_of_pairwise (λa b _ _ E U=>by omega) (Ot l) h ((Eb hr l).trans ao)
theorem Xh{l m:z1'}(ao:l.Perm m):fu hr l=fu hr m:=AH (Ot m) (ao.trans (Eb hr m).symm)
theorem alx{ak:Type}{d:ak}{lt:ak->ak->Bool}{D aJ:Type}{body:D->A (V D aJ)}{s0:D}(mk:Nat->List ak->D)(fin:List ak->aJ)(hl:Nat)(fi:List ak)(nf:s0=mk hl fi)(mZ:hl<fi.length)
  (aE:∀ k l,l.length=fi.length->k<fi.length->body (mk k l)=A.pure (if 0<k/\lt (l.getD k d) (l.getD (k - 1) d)=true then .next (mk (k - 1) ((l.set k (l.getD (k - 1) d)).set (k - 1) (l.getD k d))) else .done (fin l))) :
  A.loop body s0=A.pure (fin (vY d lt fi hl)):=by
 subst nf;have key:∀ k l,l.length=fi.length->k<fi.length->A.loop body (mk k l)=A.pure (fin (vY d lt l k)):=by
  intro k;induction k with
  | zero=>
   intro l aj an;exact A.r3 (by rw[aE 0 l aj an,if_neg (by simp)];rfl)
  | succ k aK=>
   intro l aj an;unfold vY;by_cases h:lt (l.getD (k+1) d) (l.getD k d)=true
   ·rw[if_pos h,A.y2 (s':=mk k ((l.set (k+1) (l.getD k d)).set k (l.getD (k+1) d)))]
    ·exact aK _ (by simpa using aj) (by omega)
    ·rw[aE (k+1) l aj an,if_pos ⟨by omega,h⟩];rfl
   ·rw[if_neg h];exact A.r3 (by grind)
 grind
theorem Ou{ak:Type}{l:List ak}{d:ak}{k:Nat}:l.getD ((k:Int) - 1).toNat d=l.getD (k - 1) d:=by
 simp
theorem Xi{ak:Type}{l:List ak}{d:ak}{k:Nat}:l.getD ((k:Int)).toNat d=l.getD k d:=by rfl
theorem aly{D aJ:Type}{c:Bool}{p:Prop}[Decidable p](h:c=decide p){x y:A (V D aJ)}{a b:V D aJ}(E:p->x=A.pure a)(U:¬p->y=A.pure b):(if c=true then x else y)=A.pure (if p then a else b):=by
 grind
def HZ(x:Int×Int×(bB×ba×Int->A Int)×List bB×Unit):A (List bB×Unit):=A.dS (x.1=0/\x.2.1=(x.2.2.2.1.length:Int)/\x.2.2.2.1.length<=12/\x.2.2.1=l7.sh) (fu hZ x.2.2.2.1,())
theorem alz(x):A.le (W1 x) (HZ x):=A.br λh=>by
 obtain⟨a,b,f,l,u⟩:=x;obtain⟨E,U,ag,a6⟩:=h;change a=0 at E;change b=(l.length:Int) at U;change l.length<=12 at ag;change f=l7.sh at a6;subst E;subst U;subst a6;unfold W1;rw[A.du (List.range (l.length - 1)) (λi (_:Unit)=>(0,(l.length:Int),l7.sh,((i+1:Nat):Int),qz hZ l (i+1),())) (λ_ _=>.next ()) (λ_=>(fu hZ l,())) () ?_ ?_ ?_]
 ·rw[dQ]
 ·show (0,(l.length:Int),l7.sh,IntKind.wrap .i64 (Add.add 0 1),l,())=(0,(l.length:Int),l7.sh,((0+1:Nat):Int),qz hZ l (0+1),())
  rw[alr];rfl
 ·intro i G _;have G:i+1<l.length:=by grind
  have aj:=alu hZ l (i+1) (by omega);have hw:=bA (n:=((i+1:Nat):Int)+1) (by omega) (by omega);have aw:decide (((i+1:Nat):Int)<(l.length:Int))=true:=by grind
  simp only[aw,if_true];rw[alx (d:=((0,0,0,0,0,0),0)) (lt:=hZ) (λk m=>(0,(l.length:Int),l7.sh,((i+1:Nat):Int),(k:Int),m,())) (λm=>.next (0,(l.length:Int),l7.sh,((i+1:Nat):Int),m,())) (i+1) (qz hZ l (i+1)) rfl (by omega) ?_]
  ·simp only[A.aG,A.bZ,cj,hw,alv ((0,0,0,0,0,0),0) hZ G];rfl
  ·intro k m hm an;have gX:0<k->IntKind.wrap .i64 ((k:Int) - 1)=(k:Int) - 1:=λ_=>bA (by omega) (by omega);by_cases mZ:0<k
   ·have ao:decide ((k:Int) > 0)=true:=by grind
    have b5:(0:Int)<=(k:Int)/\(k:Int)<Int.ofNat m.length:=⟨by omega,by grind⟩
    have cw:(0:Int)<=(k:Int) - 1/\(k:Int) - 1<Int.ofNat m.length:=⟨by omega,by omega⟩
    have eg:(0:Int)<=(k:Int) - 1/\(k:Int) - 1<Int.ofNat (m.set k (m.getD (k - 1) ((0,0,0,0,0,0),0))).length:=⟨by omega,by grind⟩
    have H0:((k:Int) - 1)=((k - 1:Nat):Int):=by omega
    simp only[ao,gX mZ,b5,cw,forall_const,and_self,true_and,A.bq,aL.sh,l7,A.nI,A.kF,A.aG,if_true,Bool.true_and,Ou,Xi,Int.toNat_natCast,eg];rw[show ((k:Int) - 1).toNat=k - 1 from by omega];refine aly (p:=0<k/\hZ (m.getD k ((0,0,0,0,0,0),0)) (m.getD (k - 1) ((0,0,0,0,0,0),0))=true) ?_ (λ_=>?_) (λ_=>rfl)
    ·rw[Bool.eq_iff_iff];simp only[hZ,mZ,true_and,decide_eq_true_eq];grind
    rw[H0]
   ·have Xj:k=0:=by omega
    subst Xj;simp[cr]
 ·intro _;have e:qz hZ l (l.length - 1+1)=fu hZ l:=by
   cases l with
   | nil=>rfl
   | cons x r=>exact als hZ (x::r)
  have aw:decide (((l.length - 1+1:Nat):Int)<(l.length:Int))=false:=by grind
  simp only[List.length_range,aw,Bool.false_eq_true,if_false,e,A.aG]
def H2(x:Int×Int×Int×(bB×ba×Int->A Int)×List bB×Unit):A (List bB×Unit):=A.dS (x.1=0/\x.2.1=(x.2.2.2.2.1.length:Int)/\x.2.2.2.2.1.length<=12/\x.2.2.2.1=l7.sh) (fu hZ x.2.2.2.2.1,())
theorem alA(x):A.le (W7 HZ x) (H2 x):=A.br λh=>by
 obtain⟨a,b,c,f,l,u⟩:=x;obtain⟨E,U,ag,a6⟩:=h;change a=0 at E;change b=(l.length:Int) at U;change l.length<=12 at ag;change f=l7.sh at a6;subst E;subst U;subst a6;unfold W7;refine A.r3 ?_;have hw:=bA (n:=(l.length:Int) - 0) (by omega) (by omega);have aw:decide ((l.length:Int) - 0<=12)=true:=by grind
 simp only[hw,aw,if_true];unfold HZ;simp_all
theorem alB{n:Int}(h:0<=n)(U:n<=12):IntKind.wrap .u64 n=n:=by
 show (if (false&&decide (n % 2 ^ 64>=(2 ^ (64 - 1):Int)))=true then n % 2 ^ 64 - 2 ^ 64 else n % 2 ^ 64)=n;grind
def ye(x:z1'×Unit):A (z1'×Unit):=A.dS (x.1.length<4611686018427387904) (fu hr x.1,())
def AI(x:(bB×ba×Int->A Int)×List bB×Unit):A (List bB×Unit):=A.dS (x.2.1.length<=12/\x.1=l7.sh) (fu hZ x.2.1,())
theorem alC(x):A.le (W9 On.sh H2 x) (AI x):=A.br λh=>by
 obtain⟨f,l,u⟩:=x;obtain⟨h,a6⟩:=h;change l.length<=12 at h;change f=l7.sh at a6;subst a6;unfold W9;have hw:=alB (n:=(l.length:Int)) (by omega) (by omega);show A.bind (A.dS (0<=IntKind.wrap .u64 (l.length:Int)/\IntKind.wrap .u64 (l.length:Int)<=12) _) _=_;rw[A.dv,A.bu (by omega)];unfold H2;simp_all
def AJ(x:(z1'->Prop)×Unit):A (z1'×Unit):=⟨(∃ L,x.1 L)/\∀ L,x.1 L->L.length<60000,λy=>x.1 y.1⟩
theorem Xk:∀ (L acc:z1'),L.length+acc.length<60000->jM (λ(D:z1'×Unit) (y:Int)=>A.bind (A.ab (bQ (Add.add (List.length D.1) (Add.add 0 1))) (A.pure (dj.normal,D.1++[y],()))) λp=>A.pure (p.1,p.2.1,())) L (acc,())=A.pure (.normal,acc++L,())
 | [],acc,_=>by simp[jM]
 | x::L,acc,h=>by
  simp only[List.length_cons]at h;unfold jM;rw[A.bu (gf (by grind))];simp only[A.aG];rw[Xk L (acc++[x]) (by grind)];simp
theorem alD(x):A.le (WY x) (AJ x):=λh=>by
 obtain⟨S,u⟩:=x;obtain⟨E,U⟩:=h;show A.cy _ _;unfold WY;rw[A.gh];refine⟨E,λL iL=>?_⟩;have iL:S L:=iL;show A.cy (A.bind (jM _ L ([],())) _) _;rw[Xk L [] (by grind)];simp only[A.aG,sv,List.nil_append];exact A.eb.2 iL
theorem alE(x):A.le (WZ AJ x) (AJ x):=λh=>by
 obtain⟨S,u⟩:=x;show A.cy _ _;unfold WZ;rw[A.gh];exact⟨h,λy aR=>A.eb.2 aR⟩
open Classical in
def AK(S:z1'->Prop):z1':=if h:∃ L,S L then fu hr h.choose else []
abbrev sT:aL:=⟨.ct bw,fF,λS=>(∃ L,S L)/\(∀ L e7,S L->S e7->L.Perm e7)/\∀ L,S L->L.length<60000,λS=>AK S⟩
theorem alF(x):A.le (Wq ye AJ x) (sT.sh x):=A.sK λh=>by
 obtain⟨E,U,ag⟩:=h;unfold Wq;rw[A.gh];refine⟨⟨E,λL iL=>by grind⟩,λy aR=>?_⟩;have aR:x y.1:=aR;unfold ye;show A.cy (A.bind (A.dS _ _) _) _;rw[A.dv,A.kM];refine⟨Nat.lt_trans (ag _ aR) (by decide),A.eb.2 ?_⟩;show fu hr y.1=AK x;unfold AK;rw[dif_pos E];exact Xh (U _ _ aR E.choose_spec)
theorem alG{S:z1'->Prop}{L:z1'}(h:S L)(U:∀ L e7,S L->S e7->L.Perm e7):AK S=fu hr L:=by
 have E:∃ L,S L:=⟨L,h⟩
 unfold AK;rw[dif_pos E];exact Xh (U _ _ E.choose_spec h)
def jS{ak:Type}(x:Option (List (Int×ak)))(L:z1'):Prop:=∃ m,x=some m/\(m.map (·.1)).Perm L
abbrev H3:aL:=⟨.map bw bw,.ct bw,λ_=>True,λx=>jS (some x)⟩
theorem alH(x):A.le (akD jS x) (H3.sh x):=A.br λ_=>rfl
abbrev yf:aL:=⟨.map bw hp,.ct bw,λ_=>True,λx=>jS (some x)⟩
theorem alI(x):A.le (akU jS x) (yf.sh x):=A.br λ_=>rfl
theorem ux{ak:Type}{m:List (Int×ak)}{L:z1'}:jS (some m) L<->(m.map (·.1)).Perm L:=⟨λ⟨dy,h,k⟩=>by grind,λh=>⟨m,rfl,h⟩⟩
theorem Xl{ak:Type}{m:List (Int×ak)}(h:m.length<60000):sT.pre (jS (some m)):=
 ⟨⟨_,ux.2 (.refl _)⟩,λL e7 E U=>(ux.1 E).symm.trans (ux.1 U),λL iL=>by rw[<-(ux.1 iL).length_eq];grind⟩
theorem Xm{ak:Type}{m:List (Int×ak)}:AK (jS (some m))=fu hr (m.map (·.1)):=
 alG (ux.2 (.refl _)) λL e7 E U=>(ux.1 E).symm.trans (ux.1 U)
end Go.Fer.H
namespace Go.Fer.H
open A (V)
def sU(s:Int×Int):Bool:=b4 s.1 (-30) s.2&&!decide (s.2 > 30)
def iQ(l:z4')(i:Nat):Bool:=b4 (l.getD i (0,0)).1 0 (l.getD i (0,0)).2&&!decide ((l.getD i (0,0)).2 > 9999)&&!(decide (0<i)&&decide ((l.getD i (0,0)).1<=(l.getD (i - 1) (0,0)).2))
def AL(l:z4'):Bool:=(List.range l.length).all (iQ l)
def sV(c:a1):Bool:=!(decide ((c.1.length:Int) > 3)||decide ((c.2.1.length:Int) > 12)||decide ((c.2.2.1.length:Int) > 12)||decide ((c.2.2.2.1.length:Int) > 4))&&pE c.2.2.2.2
def jT(c:a1):Bool:=sV c&&c.1.all sU&&c.2.1.all (lC c.1.length)&&c.2.2.1.all (λn=>b4 n 0 99)&&AL c.2.2.2.1
abbrev vZ:aL:=⟨iO,de,iy,λc=>jT c⟩
theorem H4{D aJ β:Type}{mk:β->D}{b:β}{q:Bool}{r:aJ}{m:A (V D aJ)}(E:q=true->m=A.pure (.next (mk b)))(U:q=false->m=A.pure (.done r)):m=A.pure (V.hn mk (if (!q)=true then .done r else .next b)):=by
 cases q
 ·exact U rfl
 ·exact E rfl
theorem Xn{ak:Type}{a t:Bool}{m n:ak}:(if (a||!(if (!a)=true then t else false))=true then m else n)=if (!a&&t)=true then n else m:=by grind
theorem alJ(x):A.le (WB cg.sh vU.sh vV.sh x) (vZ.sh x):=A.br λh=>by
 obtain⟨aQ,aS,bP,gy⟩:=h;unfold WB;show _=A.pure (jT x);simp only[aL.sh,vU,A.nI,A.kF,A.aG,bW,Xn];unfold jT;rw[show (!(decide ((x.1.length:Int) > 3)||decide ((x.2.1.length:Int) > 12)||decide ((x.2.2.1.length:Int) > 12)||decide ((x.2.2.2.1.length:Int) > 4))&&pE x.2.2.2.2)=sV x from rfl];cases W:sV x with
 | false=>rfl
 | true=>
  rw[if_pos rfl];rw[A.du x.1 (λi (_:Unit)=>((i:Int),x,())) (λy b=>if (!sU y)=true then .done (.done false) else .next b) (λ_=>.next (x,())) () ?_ ?_ ?_]
  ·rw[kh (q:=sU) _ _ (λ_=>rfl)];cases hc:x.1.all sU with
   | false=>simp
   | true=>
    simp only[if_true,A.aG,A.bZ];rw[A.du x.2.1 (λi (_:Unit)=>((i:Int),x,())) (λy b=>if (!lC x.1.length y)=true then .done (.done false) else .next b) (λ_=>.next (x,())) () ?_ ?_ ?_]
    ·rw[kh (q:=lC x.1.length) _ _ (λ_=>rfl)];cases aw:x.2.1.all (lC x.1.length) with
     | false=>simp
     | true=>
      simp only[if_true,A.aG,A.bZ];rw[A.du x.2.2.1 (λi (_:Unit)=>((i:Int),x,())) (λy b=>if (!b4 y 0 99)=true then .done (.done false) else .next b) (λ_=>.next (x,())) () ?_ ?_ ?_]
      ·rw[kh (q:=λn=>b4 n 0 99) _ _ (λ_=>rfl)];cases he:x.2.2.1.all (λn=>b4 n 0 99) with
       | false=>simp
       | true=>
        simp only[if_true,A.aG,A.bZ];rw[A.du (List.range x.2.2.2.1.length) (λi (_:Unit)=>((i:Int),x,())) (λy b=>if (!iQ x.2.2.2.1 y)=true then .done (.done false) else .next b) (λ_=>.next ()) () ?_ ?_ ?_]
        ·rw[kh (q:=iQ x.2.2.2.1) _ _ (λ_=>rfl)];unfold AL;cases (List.range x.2.2.2.1.length).all (iQ x.2.2.2.1)<;>simp
        ·rfl
        ·intro i G b;have G:i<x.2.2.2.1.length:=by grind
         have hw:=bA (n:=(i:Int)+1) (by omega) (by omega);have gX:=bA (n:=(i:Int) - 1) (by omega) (by omega);have jw:x.2.2.2.1.getD i (0,0)=x.2.2.2.1[i]:=by grind
         have sW:(decide ((i:Int) > 0))=decide (0<i):=by simp
         have M:decide (0<i)=true->((0:Int)<=(i:Int) - 1/\(i:Int) - 1<(x.2.2.2.1.length:Int)):=λh=>by grind
         refine H4 (mk:=λ(_:Unit)=>(((i+1:Nat):Int),x,())) (b:=b) ?_ ?_<;>intro bt<;>
         ·simp only[List.getElem_range,iQ,jw]at bt;simp only[bW,cV G,if_true,dh G,cN G,A.bq,aL.sh,cg,A.nI,A.iU,A.fC,cj,hw,gX,sW,Ou,List.getElem_range];revert bt;generalize b4 x.2.2.2.1[i].1 0 x.2.2.2.1[i].2=dO;generalize decide (x.2.2.2.1[i].2 > 9999)=e1;generalize decide (x.2.2.2.1[i].1<=(x.2.2.2.1.getD (i - 1) (0,0)).2)=mM;revert M;generalize decide (0<i)=r2;intro M;cases r2
          ·cases dO<;>cases e1<;>cases mM<;>simp
          ·have M:=M rfl;cases dO<;>cases e1<;>cases mM<;>simp[M,(by omega:(1:Int)<=(i:Int))]
        simp
      ·rfl
      ·intro i G b;have hw:=bA (n:=(i:Int)+1) (by omega) (by omega);simp only[bW,cV G,if_true,dh G,cN G,A.bq,aL.sh,cg,A.nI,A.aG,cj,hw];exact l3 (mk:=λ(_:Unit)=>(((i+1:Nat):Int),x,()))
      simp
    ·rfl
    ·intro i G b;have hw:=bA (n:=(i:Int)+1) (by omega) (by omega);simp only[bW,cV G,if_true,dh G,cN G,A.bq,aL.sh,vV,A.mD,A.gA,A.aG,cj,hw];rw[A.bu aQ];exact l3 (mk:=λ(_:Unit)=>(((i+1:Nat):Int),x,()))
    simp
  ·rfl
  ·intro i G b;have hw:=bA (n:=(i:Int)+1) (by omega) (by omega);refine H4 (mk:=λ(_:Unit)=>(((i+1:Nat):Int),x,())) (b:=b) ?_ ?_<;>intro bt<;>
   ·simp only[sU]at bt;simp only[bW,cV G,if_true,dh G,cN G,A.bq,aL.sh,cg,A.nI,A.iU,A.fC,cj,hw];revert bt;generalize b4 x.1[i].1 (-30) x.1[i].2=dO;generalize decide (x.1[i].2 > 30)=e1;simp_all
  simp
theorem Xo{ak:Type}{p:ak->Bool}(l:List ak):(l.any λy=>!p y)=!l.all p:=by grind
theorem alK(x):A.le (WA cg.sh (je hp).sh vU.sh (je bw).sh Ea.sh AG.sh x) (vZ.sh x):=A.br λh=>by
 obtain⟨aQ,aS,bP,gy⟩:=h;unfold WA;show _=A.pure (jT x);simp only[show vU.sh x.2.2.2.2=A.pure (pE x.2.2.2.2) from rfl,A.kF,A.aG,bW,Xn];unfold jT;rw[show (!(decide ((x.1.length:Int) > 3)||decide ((x.2.1.length:Int) > 12)||decide ((x.2.2.1.length:Int) > 12)||decide ((x.2.2.2.1.length:Int) > 4))&&pE x.2.2.2.2)=sV x from rfl];cases W:sV x with
 | false=>rfl
 | true=>
  rw[if_pos rfl];rw[A.du x.1 (λi (_:Unit)=>(x.1,(x.1.length:Int),(i:Int),x,())) (λy b=>if (!sU y)=true then .done (.done false) else .next b) (λ_=>.next (x,())) () ?_ ?_ ?_]
  ·rw[kh (q:=sU) _ _ (λ_=>rfl)];cases hc:x.1.all sU with
   | false=>simp
   | true=>
    simp only[if_true,A.aG,A.bZ];rw[A.du (List.range x.2.2.2.1.length) (λi (_:Unit)=>(x.2.2.2.1,(x.2.2.2.1.length:Int),(i:Int),x,())) (λy b=>if (!iQ x.2.2.2.1 y)=true then .done (.done false) else .next b) (λ_=>.next (x,())) () ?_ ?_ ?_]
    ·rw[kh (q:=iQ x.2.2.2.1) _ _ (λ_=>rfl)];unfold AL;cases aw:(List.range x.2.2.2.1.length).all (iQ x.2.2.2.1) with
     | false=>simp
     | true=>
      simp only[if_true,A.aG,A.bZ];have ax:(je hp).sh (x.2.1,λy=>Ea.sh (y,some x))=A.pure (!x.2.1.all (lC x.1.length)):=by
       have aq:∀ y,Ea.sh (y,some x)=A.pure (!lC x.1.length y):=λy=>A.bS ⟨x,rfl,aQ⟩ _;refine (A.bS ⟨aS,λy _=>⟨_,aq y⟩⟩ _).trans ?_;refine congrArg A.pure ?_;rw[<-Xo];simp_all
      have aO:(je bw).sh (x.2.2.1,AG.sh)=A.pure (!x.2.2.1.all (λn=>b4 n 0 99)):=by
       refine (A.bS ⟨bP,λy _=>⟨_,rfl⟩⟩ _).trans ?_;refine congrArg A.pure ?_;rw[<-Xo];show (x.2.2.1.any λy=>(AG.sh y).val false)=_;simp only[show ∀ y,AG.sh y=A.pure (!b4 y 0 99) from λ_=>rfl,A.fC]
      rw[ax,aO];simp only[A.aG,A.kF];grind
    ·rfl
    ·intro i G b;have G:i<x.2.2.2.1.length:=by grind
     have hw:=bA (n:=(i:Int)+1) (by omega) (by omega);have gX:=bA (n:=(i:Int) - 1) (by omega) (by omega);have jw:x.2.2.2.1.getD i (0,0)=x.2.2.2.1[i]:=by grind
     have sW:(decide ((i:Int) > 0))=decide (0<i):=by simp
     have M:decide (0<i)=true->((0:Int)<=(i:Int) - 1/\(i:Int) - 1<(x.2.2.2.1.length:Int)):=λh=>by grind
     refine H4 (mk:=λ(_:Unit)=>(x.2.2.2.1,(x.2.2.2.1.length:Int),((i+1:Nat):Int),x,())) (b:=b) ?_ ?_<;>intro bt<;>
     ·simp only[List.getElem_range,iQ,jw]at bt;simp only[bW,cV G,if_true,dh G,cN G,A.bq,aL.sh,cg,A.nI,A.iU,A.fC,cj,hw,gX,sW,Ou,List.getElem_range];revert bt;generalize b4 x.2.2.2.1[i].1 0 x.2.2.2.1[i].2=dO;generalize decide (x.2.2.2.1[i].2 > 9999)=e1;generalize decide (x.2.2.2.1[i].1<=(x.2.2.2.1.getD (i - 1) (0,0)).2)=mM;revert M;generalize decide (0<i)=r2;intro M;cases r2
      ·cases dO<;>cases e1<;>cases mM<;>simp
      ·have M:=M rfl;cases dO<;>cases e1<;>cases mM<;>simp[M,(by omega:(1:Int)<=(i:Int))]
    simp
  ·rfl
  ·intro i G b;have hw:=bA (n:=(i:Int)+1) (by omega) (by omega);refine H4 (mk:=λ(_:Unit)=>(x.1,(x.1.length:Int),((i+1:Nat):Int),x,())) (b:=b) ?_ ?_<;>intro bt<;>
   ·simp only[sU]at bt;simp only[bW,cV G,if_true,dh G,cN G,A.bq,aL.sh,cg,A.nI,A.aG,cj,hw];grind
  simp
abbrev jx:ba:=(0,0,0,0,0,0)
def k1(l:List ba):Bool:=(List.range l.length).any λi=>(List.range i).any λk=>uv (l.getD k jx) (l.getD i jx)
def cx(c:a1):Int:=if jT c=true then (if k1 c.2.1=true then 91 else 0) else 90
abbrev hs:aL:=⟨iO,bw,iy,λc=>cx c⟩
theorem sX{ak:Type}{l:List ak}{i:Nat}{d:ak}(h:i<l.length):l.getD i d=l[i]:=by grind
theorem alL(x):A.le (Wj vZ.sh HU.sh x) (hs.sh x):=A.br λh=>by
 obtain⟨aQ,aS,bP,gy⟩:=id h;unfold Wj;show _=A.pure (cx x);rw[show vZ.sh x=A.pure (jT x) from A.bS h _];unfold cx;cases jT x with
 | false=>simp
 | true=>
  simp only[A.aG,Bool.not_true,Bool.false_eq_true,if_false,if_true];rw[A.du (List.range x.2.1.length) (λi (_:Unit)=>((i:Int),x,())) (λi b=>if ((List.range i).any λk=>uv (x.2.1.getD k jx) (x.2.1.getD i jx))=true then .done (.done 91) else .next b) (λ_=>.next ()) () ?_ ?_ ?_]
  ·rw[rz];unfold k1;cases (List.range x.2.1.length).any λi=>(List.range i).any λk=>uv (x.2.1.getD k jx) (x.2.1.getD i jx)<;>simp
  ·rfl
  ·intro i G b;have G:i<x.2.1.length:=by grind
   have hw:=bA (n:=(i:Int)+1) (by omega) (by omega);have aw:decide ((i:Int)<Int.ofNat x.2.1.length)=true:=cV G;simp only[aw,if_true,List.getElem_range];rw[A.du (List.range i) (λk (_:Unit)=>((i:Int),(k:Int),x,())) (λk b=>if uv (x.2.1.getD k jx) (x.2.1.getD i jx)=true then .done (.done (.done (.done 91))) else .next b) (λ_=>(.next ((i:Int),x,()):V (Int×a1×Unit) (V (Int×a1×Unit) (V Unit Int)))) () ?_ ?_ ?_]
   ·rw[rz];cases (List.range i).any λk=>uv (x.2.1.getD k jx) (x.2.1.getD i jx)<;>simp[hw]
   ·rfl
   ·intro k an b;have an:k<i:=by grind
    have rD:k<x.2.1.length:=by omega
    have hw:=bA (n:=(k:Int)+1) (by omega) (by omega);have aw:decide ((k:Int)<(i:Int))=true:=by grind
    simp only[aw,if_true,bW,cN rD,cN G,A.bq,aL.sh,HU,A.nI,A.iU,A.fC,A.aG,cj,hw,List.getElem_range,Xi];exact l3 (mk:=λ(_:Unit)=>((i:Int),((k+1:Nat):Int),x,()))
   simp
  simp
def gY(l:List ba):List ba:=(ei 0 99).filterMap λid=>l.find? λs=>s.1 == id
def fv(c:a1):List ba:=(gY c.2.1).filter λs=>!c.2.2.1.contains s.1
theorem alM(l:List ba):(gY l).length<=100:=by
 refine Nat.le_trans (List.length_filterMap_le _ _) ?_;rw[show (ei 0 99).length=100 from by decide];omega
def jy(m:List (Int×ba))(k:Int):Option ba:=(m.find? λp=>decide (k=p.1)).map (·.2)
def jf(m:List (Int×ba)):z1':=m.map (·.1)
theorem Ov(p:Int×ba)(m:List (Int×ba))(k:Int)(v:ba):kX (p::m) k v=if decide (k=p.1)=true then (p.1,v)::m else p::kX m k v:=rfl
theorem Ow(k:Int)(v:ba):kX [] k v=[(k,v)]:=rfl
theorem Xp(k:Int)(v:ba):∀ m:List (Int×ba),(kX m k v).length<=m.length+1
 | []=>by rw[Ow];simp
 | p::m=>by
  rw[Ov];split
  ·simp
  ·simp;exact Xp k v m
theorem Ox(k:Int)(v:ba)(x:Int):∀ m:List (Int×ba),jy (kX m k v) x=if x=k then some v else jy m x
 | []=>by
  rw[Ow];by_cases h:x=k<;>simp[jy,h]
 | p::m=>by
  rw[Ov];have aK:=Ox k v x m;unfold jy at aK ⊢;grind
theorem Ec(k:Int)(v:ba):∀ m:List (Int×ba),((jf m).Nodup->(jf (kX m k v)).Nodup)/\∀ x,x∈jf (kX m k v)<->x∈jf m\/x=k
 | []=>by rw[Ow];simp[jf]
 | p::m=>by
  obtain⟨E,U⟩:=Ec k v m;rw[Ov];by_cases h:k=p.1
  ·subst h;simp only[decide_true,if_true];refine⟨λh=>h,λx=>?_⟩;show x∈p.1::jf m<->x∈p.1::jf m\/x=p.1;grind
  ·simp only[h,decide_false,Bool.false_eq_true,if_false];refine⟨λaB=>?_,λx=>?_⟩
   ·show (p.1::jf (kX m k v)).Nodup;have CE:(p.1::jf m).Nodup:=aB;grind
   ·show x∈p.1::jf (kX m k v)<->x∈p.1::jf m\/x=k;grind
theorem Xq{m:List (Int×ba)}{k:Int}:k∈jf m<->(jy m k).isSome=true:=by
 unfold jy jf;simp
def AM(l:List ba):Prop:=∀ a∈l,∀ b∈l,a.1=b.1->a=b
def qA(l:List ba)(k:Int):Option ba:=l.find? λs=>s.1 == k
def rE:List ba->List (Int×ba)->Option (List (Int×ba))
 | [],m=>some m
 | s::l,m=>if ((jy m s.1).isSome&&!decide ((jy m s.1).getD jx=s))=true then none else rE l (kX m s.1 s)
structure uy(P:List ba)(m:List (Int×ba)):Prop where
 oQ:∀ k,jy m k=qA P k
 mA:(jf m).Nodup
 AN:AM P
 Ed:m.length<=P.length
theorem Xr{l:List ba}{k:Int}{s:ba}(h:qA l k=some s):s∈l/\s.1=k:=by
 unfold qA at h;grind
theorem alN{l:List ba}{k:Int}(h:qA l k=none):∀ s∈l,s.1≠k:=by
 unfold qA at h;grind
theorem uy.nil:uy [] []:=⟨λ_=>rfl,.nil,λa h=>by simp,Nat.le_refl _⟩
theorem AO:∀ (l P:List ba) (m:List (Int×ba)),uy P m->(AM (P++l)->∃ dy,rE l m=some dy/\uy (P++l) dy)/\(¬AM (P++l)->rE l m=none)
 | [],P,m,h=>by simp only[List.append_nil];exact⟨λ_=>⟨m,rfl,h⟩,λaB=>absurd h.AN aB⟩
 | s::l,P,m,h=>by
  unfold rE;rw[h.oQ];cases aq:qA P s.1 with
  | some o=>
   obtain⟨af,G⟩:=Xr aq;by_cases he:o=s
   ·subst he;simp only[Option.isSome_some,Option.getD_some,decide_true,Bool.not_true,Bool.and_false,Bool.false_eq_true,if_false];have:=AO l (P++[o]) (kX m o.1 o) ⟨λk=>?_,(Ec _ _ _).1 h.mA,?_,?_⟩
    ·grind
    ·rw[Ox,h.oQ];unfold qA at aq ⊢;grind
    ·intro a bb b W v7;simp only[List.mem_append,List.mem_singleton]at bb W;exact h.AN a (bb.elim id λe=>e ▸ af) b (W.elim id λe=>e ▸ af) v7
    ·have hm:o.1∈jf m:=Xq.2 (by rw[h.oQ,aq];rfl);have aj:(jf (kX m o.1 o)).length<=(jf m).length:=by
      have E:=(Ec o.1 o m).1 h.mA;have U:jf (kX m o.1 o) ⊆ jf m:=λx ah=>by
       rcases ((Ec o.1 o m).2 x).1 ah with ah | ah
       ·exact ah
       ·exact ah ▸ hm
      exact E.length_le_of_subset U
     have:=h.Ed;simp only[jf,List.length_map]at aj;grind
   ·simp only[Option.isSome_some,Option.getD_some,he,decide_false,Bool.not_false,Bool.and_self,if_true];refine⟨λaB=>absurd (aB o (by grind) s (by simp) G) he,λ_=>trivial⟩
  | none=>
   simp only[Option.isSome_none,Bool.false_and,Bool.false_eq_true,if_false];have:=AO l (P++[s]) (kX m s.1 s) ⟨λk=>?_,(Ec _ _ _).1 h.mA,?_,?_⟩
   ·grind
   ·rw[Ox,h.oQ];have rm:=aq;unfold qA at aq ⊢;grind
   ·have aq:=alN aq;intro a bb b W v7;simp only[List.mem_append,List.mem_singleton]at bb W;rcases bb with bb | rfl<;>rcases W with W | rfl
    ·exact h.AN a bb b W v7
    ·exact absurd v7 (aq a bb)
    ·exact absurd v7.symm (aq b W)
    ·rfl
   ·have:=Xp s.1 s m;have:=h.Ed;grind
theorem AP(l:List ba):k1 l=false<->AM l:=by
 unfold k1 uv;rw[<-Bool.not_eq_true,List.any_eq_true];constructor
 ·intro h a bb b W v7;obtain⟨i,G,rfl⟩:=List.mem_iff_getElem.1 bb;obtain⟨k,an,rfl⟩:=List.mem_iff_getElem.1 W;by_cases he:l[i]=l[k]
  ·exact he
  ·exfalso;have eO:i≠k:=λe=>he (by grind);rcases Nat.lt_or_gt_of_ne eO with cc | cc
   ·refine h ⟨k,by grind,List.any_eq_true.2 ⟨i,by grind,?_⟩⟩;grind
   ·refine h ⟨i,by grind,List.any_eq_true.2 ⟨k,by grind,?_⟩⟩;grind
 ·rintro h ⟨i,G,an⟩;obtain⟨k,an,hc⟩:=List.any_eq_true.1 an;simp only[List.mem_range]at G an;rw[sX G,sX (by omega:k<l.length)]at hc;simp only[Bool.and_eq_true,decide_eq_true_eq,Bool.not_eq_true',decide_eq_false_iff_not]at hc;exact hc.2 (h _ (List.getElem_mem _) _ (List.getElem_mem _) hc.1)
theorem alO{l:List ba}:k1 l=true<->¬AM l:=by rw[<-AP];simp
theorem Xs{l:List ba}{m:List (Int×ba)}(h:uy l m)(hid:∀ s∈l,b4 s.1 0 99=true):(fu hr (jf m)).map (λk=>(jy m k).getD jx)=gY l:=by
 have ax:fu hr (jf m)=(ei 0 99).filter λk=>(qA l k).isSome:=by
  refine AH ?_ ?_
  ·refine List.Pairwise.filter _ ?_;unfold ei;rw[List.pairwise_map];exact (List.pairwise_lt_range).imp λh=>by omega
  ·refine (List.perm_ext_iff_of_nodup h.mA ?_).2 λk=>?_
   ·refine List.Pairwise.filter _ ?_;unfold ei;rw[List.pairwise_map];exact (List.pairwise_lt_range).imp λh=>by omega
   ·rw[Xq,h.oQ,List.mem_filter,sM];refine⟨λaE=>⟨?_,aE⟩,λaE=>aE.2⟩;obtain⟨s,aE⟩:=Option.isSome_iff_exists.1 aE;obtain⟨E,U⟩:=Xr aE;exact U ▸ oU.1 (hid s E)
 rw[ax];unfold gY;have:∀ L:z1',(L.filter λk=>(qA l k).isSome).map (λk=>(jy m k).getD jx)=L.filterMap λid=>l.find? λs=>s.1 == id:=by
  intro L;induction L with
  | nil=>rfl
  | cons k L aK=>
   rw[List.filter_cons,List.filterMap_cons];have e:(l.find? λs=>s.1 == k)=qA l k:=rfl;rw[e];cases aq:qA l k with
   | none=>grind
   | some s=>
    have ia:(jy m k).getD jx=s:=by rw[h.oQ,aq];rfl
    grind
 grind
theorem alP{l:List ba}{m:List (Int×ba)}(h:uy l m)(hid:∀ s∈l,b4 s.1 0 99=true):(gY l).length<=l.length:=by
 rw[<-Xs h hid,List.length_map,HY,jf,List.length_map];exact h.Ed
theorem Xt{aJ:Type}{r:aJ}{fin:List (Int×ba)->aJ}:∀ (l:List ba) (m:List (Int×ba)),eZ (λs m=>if ((jy m s.1).isSome&&!decide ((jy m s.1).getD jx=s))=true then .done r else .next (kX m s.1 s)) fin l m=match rE l m with | none=>r | some dy=>fin dy
 | [],m=>rfl
 | s::l,m=>by
  simp only[eZ,rE];by_cases h:((jy m s.1).isSome&&!decide ((jy m s.1).getD jx=s))=true
  ·grind
  ·simp only[h,Bool.false_eq_true,if_false];exact Xt l _
def v8(l:List ba):Prop:=l.length<=24/\∀ s∈l,b4 s.1 0 99=true
abbrev AQ:aL:=⟨.slice hp,.az (.slice hp) .bool,v8,λl=>if k1 l=true then ([],false) else (gY l,true)⟩
theorem alQ{m:List (Int×ba)}{yg:z1'}{aJ:Type}(h:yg.length<=24) :
 A.loop (λ(D:z1'×Int×Int×List ba×List (Int×ba)×Unit)=>if decide (D.2.2.1<D.2.1)=true then A.ab (0<=D.2.2.1/\D.2.2.1<Int.ofNat (List.length D.1)) (A.ab (bQ
 (Add.add (List.length D.2.2.2.1) (Add.add 0 1))) (A.pure (V.next (D.1,D.2.1,IntKind.wrap .i64 (Add.add D.2.2.1 1),D.2.2.2.1++[Option.getD
 (Option.map (λx=>x.2) (List.find? (λp=>decide (List.getD D.1 (Int.toNat D.2.2.1) 0=p.1)) D.2.2.2.2.1)) (0,0,0,0,0,0)],D.2.2.2.2.1,())))) else A.bind (A.pure (V.next (D.2.2.2.1,()))) λr=>A.pure (V.done r)) (yg,Int.ofNat (List.length yg),0,[],m,())=A.pure (V.next (yg.map (λk=>(jy m k).getD jx),()):V (List ba×Unit) aJ):=by
 rw[A.f' yg (λi (b:List ba)=>(yg,(yg.length:Int),(i:Int),b,m,())) (λk b=>.next (b++[(jy m k).getD jx])) (λb=>.next (b,())) (λi b=>b.length=i) [] ?_ ?_ ?_ ?_]
 ·rw[dQ,uq];rfl
 ·rfl
 ·rfl
 ·intro i G b W;have hw:=bA (n:=(i:Int)+1) (by omega) (by omega);refine⟨?_,λbf dc=>?_⟩
  ·simp only[bW,cV G,if_true,dh G,cN G,A.bq,cj,hw];rw[A.bu (gf (by grind))];rfl
  grind
 simp
def sY{gD:Type}(R:A gD):List ba×Int×Int×List (Int×ba)×Unit->A (V (List ba×Int×Int×List (Int×ba)×Unit) (V (List (Int×ba)×Unit) gD)):=λ(D:List ba×Int×Int×List (Int×ba)×Unit)=>if decide (D.2.2.1<D.2.1)=true then A.ab (0<=D.2.2.1/\D.2.2.1 <
 Int.ofNat (List.length D.1)) (if (Option.isSome (Option.map (λx=>x.2) (List.find? (λp=>decide ((List.getD D.1 (Int.toNat D.2.2.1) (0,0,0,0,0,0)).1=p.1)) D.2.2.2.1))&&!(decide ((Option.getD (Option.map (λx=>x.2) (List.find? (λp=>decide ((List.getD D.1 (Int.toNat D.2.2.1)
 (0,0,0,0,0,0)).1=p.1)) D.2.2.2.1)) (0,0,0,0,0,0)).1=(List.getD D.1 (Int.toNat D.2.2.1) (0,0,0,0,0,0)).1)&&(decide ((Option.getD
 (Option.map (λx=>x.2) (List.find? (λp=>decide ((List.getD D.1 (Int.toNat D.2.2.1) (0,0,0,0,0,0)).1=p.1)) D.2.2.2.1)) (0,0,0,0,0,0)).2.1=(List.getD D.1 (Int.toNat D.2.2.1) (0,0,0,0,0,0)).2.1)&&(decide ((Option.getD (Option.map (λx=>x.2) (List.find? (λp=>
 decide ((List.getD D.1 (Int.toNat D.2.2.1) (0,0,0,0,0,0)).1=p.1)) D.2.2.2.1)) (0,0,0,0,0,0)).2.2.1=(List.getD D.1 (Int.toNat D.2.2.1)
 (0,0,0,0,0,0)).2.2.1)&&(decide ((Option.getD (Option.map (λx=>x.2) (List.find? (λp=>decide ((List.getD D.1 (Int.toNat D.2.2.1) (0,0,0,0,0,0)).1=p.1)) D.2.2.2.1)) (0,0,0,0,0,0)).2.2.2.1=(List.getD D.1 (Int.toNat D.2.2.1) (0,0,0,0,0,0)).2.2.2.1)&&(decide
 ((Option.getD (Option.map (λx=>x.2) (List.find? (λp=>decide ((List.getD D.1 (Int.toNat D.2.2.1) (0,0,0,0,0,0)).1=p.1)) D.2.2.2.1))
 (0,0,0,0,0,0)).2.2.2.2.1=(List.getD D.1 (Int.toNat D.2.2.1) (0,0,0,0,0,0)).2.2.2.2.1)&&decide ((Option.getD (Option.map (λx=>x.2)
 (List.find? (λp=>decide ((List.getD D.1 (Int.toNat D.2.2.1) (0,0,0,0,0,0)).1=p.1)) D.2.2.2.1)) (0,0,0,0,0,0)).2.2.2.2.2=(List.getD
 D.1 (Int.toNat D.2.2.1) (0,0,0,0,0,0)).2.2.2.2.2)))))))=true then A.bind (A.bind R λr=>A.pure (V.done r)) λr=>
 A.pure (V.done r) else A.pure (V.next (D.1,D.2.1,IntKind.wrap .i64 (Add.add D.2.2.1 1),kX D.2.2.2.1 (List.getD D.1 (Int.toNat D.2.2.1)
 (0,0,0,0,0,0)).1 (List.getD D.1 (Int.toNat D.2.2.1) (0,0,0,0,0,0)),()))) else A.bind (A.pure (V.next (D.2.2.2.1,()))) λr=>A.pure
 (V.done r)
theorem Xu{gD:Type}{R:A gD}{l:List ba}(aj:l.length<=24){i:Nat}(G:i<l.length)(m:List (Int×ba)):sY R (l,(l.length:Int),(i:Int),m,())=if ((jy m l[i].1).isSome&&!decide ((jy m l[i].1).getD jx=l[i]))=true then A.bind (A.bind R λr=>A.pure (V.done r)) λr=>A.pure (V.done r) else A.pure (.next (l,(l.length:Int),((i+1:Nat):Int),kX m l[i].1 l[i],())):=by
 have hw:=bA (n:=(i:Int)+1) (by omega) (by omega);have es:=W_ ((jy m l[i].1).getD jx) l[i];unfold sY;simp only[bW,cV G,if_true,dh G,cN G,A.bq,cj,hw];rw[show (Option.map (λx=>x.2) (List.find? (λp=>decide (l[i].1=p.1)) m))=jy m l[i].1 from rfl];grind
theorem Xv{gD:Type}{R:A gD}{l:List ba}(m:List (Int×ba)):sY R (l,(l.length:Int),(l.length:Int),m,())=A.pure (.done (.next (m,()))):=by
 unfold sY;simp
def AR{gD:Type}(k:List ba->A gD):List (Int×ba)×Unit->A gD:=λ(D:List (Int×ba)×Unit)=>A.bind (A.bind
 (yf.sh D.1) λy=>A.bind (sT.sh y) λy=>A.loop (λ(D:z1'×Int×Int×List ba×
 List (Int×ba)×Unit)=>if decide (D.2.2.1<D.2.1)=true then A.ab (0<=D.2.2.1/\D.2.2.1<Int.ofNat (List.length D.1)) (A.ab (bQ
 (Add.add (List.length D.2.2.2.1) (Add.add 0 1))) (A.pure (V.next (D.1,D.2.1,IntKind.wrap .i64 (Add.add D.2.2.1 1),D.2.2.2.1++[Option.getD
 (Option.map (λx=>x.2) (List.find? (λp=>decide (List.getD D.1 (Int.toNat D.2.2.1) 0=p.1)) D.2.2.2.2.1)) (0,0,0,0,0,0)],D.2.2.2.2.1,())))) else A.bind (A.pure (V.next (D.2.2.2.1,()))) λr=>A.pure (V.done r)) (y,Int.ofNat (List.length y),0,[],D.1,())) (V.bz λ(D
 : List ba×Unit)=>k D.1)
theorem alR{l:List ba}{m:List (Int×ba)}(eB:uy l m)(hid:v8 l){gD:Type}(k:List ba->A gD):AR k (m,())=k (gY l):=by
 obtain⟨aj,hid⟩:=hid;have ao:sT.pre (jS (some m)):=Xl (by have:=eB.Ed;omega);have e:sT.sh (jS (some m))=A.pure (fu hr (jf m)):=by
  refine (A.bS ao _).trans (congrArg A.pure ?_);exact Xm
 unfold AR;show A.bind (A.bind (yf.sh m) _) _=_;rw[show yf.sh m=A.pure (jS (some m)) from rfl,A.aG,e,A.aG,alQ (by rw[HY,jf,List.length_map];have:=eB.Ed;omega),A.aG,A.bZ,Xs eB hid]
theorem Xw(l:List ba)(h:v8 l)(hc:k1 l=false){gD:Type}(k:List ba->A gD)(R:A gD) :
  A.bind (A.loop (sY R) (l,Int.ofNat (List.length l),0,[],())) (V.bz (AR k))=k (gY l):=by
 have aB:=(AP l).1 hc;obtain⟨E,_⟩:=AO l [] [] .nil;rw[List.nil_append]at E;obtain⟨m,hm,eB⟩:=E aB;have key:A.loop (sY R) (l,Int.ofNat (List.length l),0,[],())=A.pure (.next (m,())):=by
  have gen:∀ (k:Nat) (i:Nat) (dy:List (Int×ba)),l.length - i=k->i<=l.length->rE (l.drop i) dy=some m->uy (l.take i) dy->A.loop (sY R) (l,(l.length:Int),(i:Int),dy,())=A.pure (.next (m,())):=by
   intro k;induction k with
   | zero=>
    intro i dy an G af _;have:i=l.length:=by omega
    subst this;rw[List.drop_length]at af;simp only[rE,Option.some.injEq]at af;subst af;exact A.r3 (Xv _)
   | succ k aK=>
    intro i dy an G af M8;have G:i<l.length:=by omega
    rw[List.drop_eq_getElem_cons G]at af;unfold rE at af;split at af
    ·cases af
    ·rename_i F3;refine (A.y2 ((Xu h.1 G dy).trans (if_neg F3))).trans ?_;refine aK (i+1) _ (by omega) G af ?_;obtain⟨g1,_⟩:=AO [l[i]] (l.take i) dy M8;have pG:l.take i++[l[i]]=l.take (i+1):=by simp
     rw[pG]at g1;obtain⟨ayu,ax,aO⟩:=g1 λa bb b W=>aB a (List.mem_of_mem_take bb) b (List.mem_of_mem_take W);unfold rE at ax;rw[if_neg F3]at ax;simp only[rE,Option.some.injEq]at ax;grind
  exact gen l.length 0 [] rfl (Nat.zero_le _) hm .nil
 rw[key,A.aG,A.bZ,alR eB h]
theorem alS(l:List ba)(h:v8 l)(hc:k1 l=true){gD:Type}(k:List ba->A gD)(r:gD) :
  A.bind (A.loop (sY (A.pure r)) (l,Int.ofNat (List.length l),0,[],())) (V.bz (AR k))=A.pure r:=by
 rw[A.du l (λi (m:List (Int×ba))=>(l,(l.length:Int),(i:Int),m,())) (λs m=>if ((jy m s.1).isSome&&!decide ((jy m s.1).getD jx=s))=true then (.done (.done r):V (List (Int×ba)) (V (List (Int×ba)×Unit) _)) else .next (kX m s.1 s)) (λm=>.next (m,())) [] ?_ ?_ ?_]
 ·rw[Xt];obtain⟨_,U⟩:=AO l [] [] .nil;rw[U (alO.1 hc)];simp
 ·rfl
 ·intro i G m;rw[Xu h.1 G m,A.aG,A.aG];exact Vq (mk:=λ(m:List (Int×ba))=>(l,(l.length:Int),((i+1:Nat):Int),m,()))
 ·intro m;exact Xv m
theorem alT(x):A.le (akN sT.sh yf.sh x) (AQ.sh x):=A.br λh=>by
 show A.bind (A.loop (sY (A.pure ([],false))) (x,Int.ofNat (List.length x),0,[],())) (V.bz (AR λa=>A.pure (a,true)))=A.pure (if k1 x=true then ([],false) else (gY x,true));cases hc:k1 x with
 | true=>exact alS x h hc _ _
 | false=>exact Xw x h hc _ _
def H5(x:List ba×Unit):A (Bool×List ba×Unit):=A.dS (v8 x.1/\k1 x.1=false) (true,gY x.1,())
theorem alU(x):A.le (ak0 sT.sh yf.sh x) (H5 x):=A.br λh=>by
 show A.bind (A.loop (sY (A.pure (false,[],()))) (x.1,Int.ofNat (List.length x.1),0,[],())) (V.bz (AR λa=>A.pure (true,a,())))=_;exact Xw x.1 h.1 h.2 _ _
theorem H6{c:a1}(h:jT c=true):v8 c.2.1:=by
 unfold jT sV at h;simp only[Bool.and_eq_true,List.all_eq_true,Bool.not_eq_true',Bool.or_eq_false_iff,decide_eq_false_iff_not]at h;obtain⟨⟨⟨⟨⟨bl,_⟩,_⟩,U⟩,_⟩,_⟩:=h;refine⟨by omega,λs aE=>?_⟩;have:=U s aE;unfold lC at this;grind
theorem alV(x):A.le (Wi vZ.sh AQ.sh x) (hs.sh x):=A.br λh=>by
 unfold Wi;show _=A.pure (cx x);rw[show vZ.sh x=A.pure (jT x) from A.bS h _];unfold cx;cases hc:jT x with
 | false=>simp
 | true=>
  simp only[A.aG,Bool.not_true,Bool.false_eq_true,if_false,if_true];rw[show AQ.sh x.2.1=A.pure (if k1 x.2.1=true then ([],false) else (gY x.2.1,true)) from A.bS (H6 hc) _];cases k1 x.2.1<;>simp
def H7(x:(ba->A Bool)×List ba×Unit):A ((Nat×Nat)×List ba×Unit):=A.dS (x.2.1.length<2 ^ 63/\∀ y∈x.2.1,∃ b,x.1 y=A.pure b)
 ((0,(x.2.1.filter λs=>!(x.1 s).val false).length),(x.2.1.filter λs=>!(x.1 s).val false)++List.replicate (x.2.1.length - (x.2.1.filter λs=>!(x.1 s).val false).length) jx,())
theorem Xx{ak:Type}(p:ak->Bool):∀ (l:List ak) (i:Int),(l.any p=true->∃ k:Nat,∃ h:k<l.length,hO p l i=i+k/\p l[k]=true/\(∀ y∈l.take k,p y=false))
 | [],i,h=>by grind
 | x::l,i,h=>by
  unfold hO;by_cases ah:p x=true
  ·grind
  ·have nO:p x=false:=by grind
   simp only[List.any_cons,nO,Bool.false_or]at h;obtain⟨k,an,E,U,ag⟩:=Xx p l (i+1) h;refine⟨k+1,by grind,by grind,by grind,?_⟩;grind
theorem alW(x):A.le (W0 (k0 hp).sh x) (H7 x):=A.br λh=>by
 obtain⟨f,l,u⟩:=x;obtain⟨E,U⟩:=h;change l.length<2 ^ 63 at E;change ∀ y∈l,∃ b,f y=A.pure b at U;unfold W0;rw[show (k0 hp).sh (l,f)=A.pure (hO (λy=>(f y).val false) l 0) from A.bS ⟨E,U⟩ _];rw[A.aG];by_cases bb:(l.any λy=>(f y).val false)=true
 ·obtain⟨k,an,ax,aO,cF⟩:=Xx (λy=>(f y).val false) l 0 bb;have hw:=bA (n:=(k:Int)+1) (by omega) (by omega);have eO:¬(decide ((0:Int)+k=-1)=true):=by simp
  rw[ax,if_neg eO];generalize bt:(λs=>!(f s).val false)=q at *
  have alX:∀ s,(!(f s).val false)=q s:=λs=>by grind
  have pG:l.take k=(l.take k).filter q:=by
   rw[List.filter_eq_self.2];grind
  have H0:(l.take (k+1)).filter q=l.take k:=by
   rw[List.take_add_one,List.getElem?_eq_getElem an,Option.toList_some,List.filter_append,<-pG];grind
  rw[A.du (l.drop (k+1)) (λi (_:Unit)=>(f,(((l.take (k+1+i)).filter q).length:Int),((k+1+i:Nat):Int),(l.take (k+1+i)).filter q++l.drop ((l.take (k+1+i)).filter q).length,())) (λ_ u=>.next u) (λ_=>.next (((l.filter q).length:Int),l.filter q++l.drop (l.filter q).length,())) () ?_ ?_ ?_]
  ·rw[dQ];have hlen:(l.filter q).length<=l.length:=List.length_filter_le _ _;have gw:(l.filter q++l.drop (l.filter q).length).length=l.length:=by grind
   simp only[A.aG,A.bZ,bW,gw];rw[A.bu (by omega)];simp only[A.bq,Int.toNat_natCast];have Ee:List.take (l.filter q).length (l.filter q++l.drop (l.filter q).length)=l.filter q:=List.take_left;rw[Ee];refine (A.bu ⟨by omega,by omega,by grind⟩ _).trans ?_;refine congrArg A.pure (Prod.ext rfl (Prod.ext ?_ rfl));show (_++_++_:List ba)=_;exact (congrArg (λz=>_++z) (List.drop_eq_nil_iff.2 (by simp))).trans (List.append_nil _)
  ·show (f,(0:Int)+k,IntKind.wrap .i64 (Add.add ((0:Int)+k) 1),l,())=_;rw[Int.zero_add,cj,hw];refine Prod.ext rfl (Prod.ext ?_ (Prod.ext ?_ (Prod.ext ?_ rfl)))
   ·grind
   ·rfl
   ·show l=(l.take (k+1+0)).filter q++l.drop ((l.take (k+1+0)).filter q).length;rw[Nat.add_zero,H0,List.length_take,Nat.min_eq_left (by omega),List.take_append_drop]
  ·intro i G _;have G:k+1+i<l.length:=by grind
   have hle:((l.take (k+1+i)).filter q).length<=k+i:=by
    have E:=List.length_filter_le q (l.drop (k+1) |>.take i);rw[List.take_add,List.filter_append,List.length_append,H0];grind
   have cc:((l.take (k+1+i)).filter q).length<l.length:=by omega
   have kS:((l.take (k+1+i)).filter q++l.drop ((l.take (k+1+i)).filter q).length).length=l.length:=by grind
   have hw:=bA (n:=((k+1+i:Nat):Int)+1) (by omega) (by omega);have gX:=bA (n:=(((l.take (k+1+i)).filter q).length:Int)+1) (by omega) (by omega);have dA:k+1+i<((l.take (k+1+i)).filter q++l.drop ((l.take (k+1+i)).filter q).length).length:=by omega
   have Cn:((l.take (k+1+i)).filter q).length<((l.take (k+1+i)).filter q++l.drop ((l.take (k+1+i)).filter q).length).length:=by omega
   have jw:((l.take (k+1+i)).filter q++l.drop ((l.take (k+1+i)).filter q).length)[k+1+i]=l[k+1+i]:=by
    rw[List.getElem_append_right (by omega),List.getElem_drop];congr 1;omega
   obtain⟨b,W⟩:=U _ (List.getElem_mem G);have ae:q l[k+1+i]=!b:=by rw[<-alX,W,A.fC]
   have pG:(l.take (k+1+(i+1))).filter q=(l.take (k+1+i)).filter q++(if (!b)=true then [l[k+1+i]] else []):=by
    rw[show k+1+(i+1)=k+1+i+1 from rfl,List.take_add_one,List.getElem?_eq_getElem G,Option.toList_some,List.filter_append,List.filter_cons,ae,List.filter_nil]
   simp only[bW,cV dA,if_true,dh dA,cN dA,cN Cn,A.bq,jw,W,A.aG,cj,gX];simp only[Int.toNat_natCast];cases b with
   | true=>
    simp only[Bool.not_true,Bool.false_eq_true,if_false,A.aG,A.bZ,hw,V.hn,List.append_nil]at pG ⊢;grind
   | false=>
    simp only[Bool.not_false,if_true,A.aG,A.bZ,hw,V.hn]at pG ⊢;have es:(List.filter q (List.take (k+1+i) l)++List.drop (List.filter q (List.take (k+1+i) l)).length l).set (List.filter q (List.take (k+1+i) l)).length l[k+1+i]=(l.take (k+1+(i+1))).filter q++l.drop ((l.take (k+1+(i+1))).filter q).length:=by
     rw[pG,List.set_append_right _ _ (Nat.le_refl _),Nat.sub_self,List.drop_eq_getElem_cons cc,List.set_cons_zero];simp
    rw[es];have MA:(((l.take (k+1+i)).filter q).length:Int)+1=(((l.take (k+1+(i+1))).filter q).length:Int):=by grind
    grind
  ·intro _;have aj:(l.drop (k+1)).length=l.length - (k+1):=by simp
   have bH:k+1+(l.drop (k+1)).length=l.length:=by omega
   have hle:(l.filter q).length<=l.length:=List.length_filter_le _ _;simp only[bH,List.take_length];rw[if_neg (by grind),A.aG]
 ·rw[D' _ _ bb];have:(l.filter λs=>!(f s).val false)=l:=by
   simp_all
  simp only[decide_true,if_true,this,Nat.sub_self,List.replicate_zero,List.append_nil]
abbrev bH:bB:=((0,0,0,0,0,0),0)
def oW(c:a1)(w:z1')(u:Int):List bB:=((fv c).filter λs=>decide (uu s=u)).map λs=>(s,yc s+w.getD (pD s).toNat 0)
def b8(c:a1)(w:z1')(u:Int):List bB:=fu hZ (oW c w u)
def qB(l:List bB)(i:Nat):Bool:=!(decide (0<i)&&decide ((l.getD i bH).2=(l.getD (i - 1) bH).2))&&decide (ep (l.getD i bH).1=1+((i % 2:Nat):Int))
def eE(l:List bB):Bool:=(List.range l.length).all (qB l)
structure gZ(c:a1):Prop where
 Oy:cx c=0
 ec:c.1.length<=3
 ef:c.2.1.length<=12
 jm:c.2.2.1.length<=12
 n4:c.2.2.2.1.length<=4
 i_:jT c=true
 AN:AM c.2.1
 Oz:pE c.2.2.2.2=true
 clk:∀ s∈c.1,-30<=s.1/\s.1<=s.2/\s.2<=30
 jg:∀ s∈c.2.1,lC c.1.length s=true
 iz:AL c.2.2.2.1=true
theorem oX{c:a1}(h:cx c=0):gZ c:=by
 have aY:=h;unfold cx at h;split at h
 ·rename_i hc;split at h
  ·omega
  ·rename_i aB;have lV:=hc;unfold jT sV at hc;simp only[Bool.and_eq_true,List.all_eq_true,Bool.not_eq_true',Bool.or_eq_false_iff,decide_eq_false_iff_not]at hc;obtain⟨⟨⟨⟨⟨⟨⟨⟨b9,a2⟩,a3⟩,a4⟩,a5⟩,fH⟩,fI⟩,h0⟩,a9⟩:=hc;refine⟨aY,by omega,by omega,by omega,by omega,lV,(AP _).1 (by grind),a5,λs aE=>?_,fI,a9⟩;have:=fH s aE;unfold sU at this;simp only[Bool.and_eq_true,Bool.not_eq_true',decide_eq_false_iff_not,oU]at this;omega
 omega
theorem AS{n:Nat}{s:ba}:lC n s=true<->(0<=lB s/\lB s<=99)/\(0<=pD s/\pD s<=(n:Int) - 1)/\(0<=yc s/\yc s<=9999)/\(0<=uu s/\uu s<=9)/\(0<=iP s/\iP s<=99)/\(ep s=1\/ep s=2/\iP s=0):=by
 unfold lC;simp only[Bool.and_eq_true,oU,Bool.or_eq_true,decide_eq_true_eq,and_assoc]
theorem gZ.alY{c:a1}(h:gZ c):∃ m,uy c.2.1 m:=by
 obtain⟨E,_⟩:=AO c.2.1 [] [] .nil;rw[List.nil_append]at E;obtain⟨m,_,eB⟩:=E h.AN;grind
theorem gZ.OA{c:a1}(h:gZ c):(fv c).length<=12:=by
 obtain⟨m,eB⟩:=h.alY;have E:=alP eB (H6 h.i_).2;have U:=List.length_filter_le (λs:ba=>!c.2.2.1.contains s.1) (gY c.2.1);have:=h.ef;unfold fv;omega
theorem Ef{l:List ba}{s:ba}(h:s∈gY l):s∈l:=by
 unfold gY at h;grind
theorem alZ{c:a1}{s:ba}(h:s∈fv c):s∈c.2.1:=Ef (List.mem_filter.1 h).1
theorem gZ.AT{c:a1}(h:gZ c){s:ba}(aE:s∈fv c):lC c.1.length s=true:=h.jg s (alZ aE)
def pH(c:a1)(w:z1'):Prop:=w.length=c.1.length/\∀ n∈w,-30<=n/\n<=30
theorem pH.at{c:a1}{w:z1'}(h:pH c w)(aC:gZ c){s:ba}(aE:s∈fv c):0<=pD s/\pD s<(w.length:Int)/\-30<=w.getD (pD s).toNat 0/\w.getD (pD s).toNat 0<=30:=by
 have E:=(AS.1 (aC.AT aE)).2.1;have aj:pD s<(w.length:Int):=by rw[h.1];omega
 exact⟨E.1,aj,h.2 _ (x5 E.1 aj)⟩
theorem Eg{c:a1}(h:gZ c)(w:z1')(u:Int):(b8 c w u).length<=12:=by
 unfold b8 oW;rw[HY,List.length_map];exact Nat.le_trans (List.length_filter_le _ _) h.OA
theorem Eh{c:a1}{w:z1'}{u:Int}{e:bB}(h:e∈b8 c w u):e.1∈fv c/\uu e.1=u/\e.2=yc e.1+w.getD (pD e.1).toNat 0:=by
 unfold b8 at h;rw[Xd]at h;unfold oW at h;grind
theorem Xy(i:Nat):Int.tmod (i:Int) 2=((i % 2:Nat):Int):=by
 rfl
theorem al0(l:List bB)(i:Nat):(decide ((i:Int) > 0)&&decide ((l.getD i bH).2=(l.getD (i - 1) bH).2)||decide (ep (l.getD i bH).1≠1+((i % 2:Nat):Int)))=!qB l i:=by
 unfold qB;simp
def kk(a b:Int)(s:Int×Int):Int:=max 0 (min (b - 1) s.2 - max a s.1+1)
def l8(cl:z4')(a b:Int):Int:=cl.foldl (λn s=>n - kk a b s) (b - a)
def Xz(cl:z4'):Prop:=cl.length<=4/\∀ s∈cl,0<=s.1/\s.1<=s.2/\s.2<=9999
theorem gZ.OB{c:a1}(h:gZ c):Xz c.2.2.2.1:=by
 refine⟨h.n4,λs aE=>?_⟩;have:=h.iz;unfold AL at this;rw[List.all_eq_true]at this;obtain⟨i,G,rfl⟩:=List.mem_iff_getElem.1 aE;have:=this i (by grind);unfold iQ at this;rw[sX G]at this;simp only[Bool.and_eq_true,oU,Bool.not_eq_true',decide_eq_false_iff_not]at this;omega
abbrev AU(x:a1×Int×Int):Prop:=Xz x.1.2.2.2.1/\-100<=x.2.1/\x.2.1<=x.2.2/\x.2.2<=11000
theorem al1{a b:Int}{s:Int×Int}(bb:-100<=a)(W:b<=11000)(aE:0<=s.1/\s.1<=s.2/\s.2<=9999):0<=kk a b s/\kk a b s<=20000:=by
 unfold kk;omega
theorem XA{n:Int}:(if n > 0 then n else 0)=max 0 n:=by omega
theorem XB{a b:Int}:(if a<b then a else b)=min b a:=by omega
theorem al2{a b:Int}:(if a<b then a else b)=min a b:=by omega
theorem al3{a b:Int}:(if a > b then a else b)=max b a:=by omega
theorem al4{a b:Int}:(if a > b then a else b)=max a b:=by omega
abbrev v_:aL:=⟨.az iO (.az bw bw),bw,AU,λx=>l8 x.1.2.2.2.1 x.2.1 x.2.2⟩
theorem al5(x):A.le (WG x) (v_.sh x):=A.br λh=>by
 obtain⟨c,a,b⟩:=x;obtain⟨⟨E,U⟩,ag,a6,bM⟩:=h;change -100<=a at ag;change a<=b at a6;change b<=11000 at bM;change c.2.2.2.1.length<=4 at E;change ∀ s∈c.2.2.2.1,_ at U;unfold WG;have Am:=bA (n:=b - a) (by omega) (by omega);rw[A.f' c.2.2.2.1 (λi (n:Int)=>(a,b,n,c.2.2.2.1,(c.2.2.2.1.length:Int),(i:Int),())) (λs n=>.next (n - kk a b s)) (λn=>.next (n,())) (λi n=>-(20000*(i:Int))<=n/\n<=20000) (b - a) ?_ ?_ ?_ ?_]
 ·rw[dQ,A.aG];rfl
 ·grind
 ·omega
 ·intro i G n aB;have aE:=U _ (List.getElem_mem G);have hc:=al1 (a:=a) (b:=b) ag bM aE;have hw:=bA (n:=(i:Int)+1) (by omega) (by omega);refine⟨?_,λbf dc=>?_⟩
  ·simp only[Prod.da,bW,cV G,if_true,dh G,cN G,A.bq,cj,hw];have cp:=bA (n:=b - 1) (by omega) (by omega);have c8:=bA (n:=min (b - 1) c.2.2.2.1[i].2 - max a c.2.2.2.1[i].1) (by omega) (by omega);have eX:=bA (n:=min (b - 1) c.2.2.2.1[i].2 - max a c.2.2.2.1[i].1+1) (by omega) (by omega);have AV:=bA (n:=n - kk a b c.2.2.2.1[i]) (by omega) (by omega);simp only[cp,al2,al4,c8,eX,XA];rw[show max (min (b - 1) c.2.2.2.1[i].2 - max a c.2.2.2.1[i].1+1) 0=kk a b c.2.2.2.1[i] from Int.max_comm _ _,AV];rfl
  grind
 simp
def lD(t:pB)(m:Int):Int:=if m>=t.2.2.2.2.1 then t.2.2.2.2.2.1 else min t.2.2.2.1 ((max 0 (m - t.1)+t.2.1 - 1) / t.2.1*t.2.2.1)
abbrev yh(x:pB×Int):Prop:=pE x.1=true/\-100000<=x.2/\x.2<=20000
abbrev v':aL:=⟨.az Oi bw,bw,yh,λx=>lD x.1 x.2⟩
theorem H8{t:pB}:pE t=true<->(0<=t.1/\t.1<=9999)/\(1<=t.2.1/\t.2.1<=9999)/\(1<=t.2.2.2.2.1/\t.2.2.2.2.1<=9999)/\(0<=t.2.2.1/\t.2.2.1<=100000)/\(0<=t.2.2.2.1/\t.2.2.2.1<=100000)/\(0<=t.2.2.2.2.2.1/\t.2.2.2.2.2.1<=100000)/\(0<=t.2.2.2.2.2.2/\t.2.2.2.2.2.2<=100000):=by
 unfold pE;simp only[Bool.and_eq_true,oU,and_assoc]
theorem XC{t:pB}{m:Int}(h:yh (t,m)):0<=(max 0 (m - t.1)+t.2.1 - 1) / t.2.1/\(max 0 (m - t.1)+t.2.1 - 1) / t.2.1<=30000/\0<=(max 0 (m - t.1)+t.2.1 - 1) / t.2.1*t.2.2.1/\(max 0 (m - t.1)+t.2.1 - 1) / t.2.1*t.2.2.1<=3000000000:=by
 obtain⟨E,U,ag⟩:=h;change -100000<=m at U;change m<=20000 at ag;obtain⟨b9,a2,a3,a4,a5,fH,fI⟩:=(H8 (t:=t)).1 E;have dO:0<=(max 0 (m - t.1)+t.2.1 - 1) / t.2.1:=Int.ediv_nonneg (by omega) (by omega);have e1:(max 0 (m - t.1)+t.2.1 - 1) / t.2.1<=max 0 (m - t.1)+t.2.1 - 1:=Int.ediv_le_self _ (by omega);have mM:(max 0 (m - t.1)+t.2.1 - 1) / t.2.1<=30000:=by omega
 refine⟨dO,mM,Int.mul_nonneg dO a4.1,?_⟩;calc (max 0 (m - t.1)+t.2.1 - 1) / t.2.1*t.2.2.1<=30000*100000:=Int.mul_le_mul mM a4.2 a4.1 (by omega)
  _=3000000000:=by decide
theorem al6{t:pB}{m:Int}(h:yh (t,m)):0<=lD t m/\lD t m<=100000:=by
 have:=XC h;obtain⟨E,U,ag⟩:=h;obtain⟨b9,a2,a3,a4,a5,fH,fI⟩:=(H8 (t:=t)).1 E;unfold lD;omega
theorem al7(x):A.le (Wt x) (v'.sh x):=A.br λh=>by
 obtain⟨t,m⟩:=x;have hu:=XC h;obtain⟨E,U,ag⟩:=h;change -100000<=m at U;change m<=20000 at ag;obtain⟨b9,a2,a3,a4,a5,fH,fI⟩:=(H8 (t:=t)).1 E;have cp:=bA (n:=m - t.1) (by omega) (by omega);have c8:=bA (n:=max 0 (m - t.1)+t.2.1) (by omega) (by omega);have eX:=bA (n:=max 0 (m - t.1)+t.2.1 - 1) (by omega) (by omega);have AV:=bA (n:=(max 0 (m - t.1)+t.2.1 - 1) / t.2.1) (by omega) (by omega);have al8:=bA (n:=(max 0 (m - t.1)+t.2.1 - 1) / t.2.1*t.2.2.1) (by omega) (by omega);have Ei:Int.tdiv (max 0 (m - t.1)+t.2.1 - 1) t.2.1=(max 0 (m - t.1)+t.2.1 - 1) / t.2.1:=Int.tdiv_eq_ediv_of_nonneg (by omega);unfold Wt;show _=A.pure (lD t m);unfold lD;simp only[Prod.da,cp,XA,cj,c8,eX,Ei,AV,Int.mul_comm t.2.2.1,al8,XB,decide_eq_true_eq];rw[A.bu (show t.2.1≠0 from by omega)];grind
def g_(c:a1)(w:z1')(u:Int):List bB:=if eE (b8 c w u)=true then b8 c w u else []
def nj(l:List bB)(minute:Int):Int×Int:=l.foldl (λb e=>if e.2<=minute then (if ep e.1=2 then (-1,e.2) else (iP e.1,e.2)) else b) (-1,0)
def H9(c:a1)(w:z1')(minute:Int):Int:=((ei 0 9).foldl (λn u=>if (nj (g_ c w u) minute).1>=0 then n+1 else n) (0:Int))
def uz(l:List bB):List (bB×bB):=l.zip (l.drop 1)
def Ej(cl:z4')(jg:Int)(l:List bB):Option Int:=((uz l).find? λp=>lB p.1.1 == jg&&ep p.1.1 == 1).map λp=>l8 cl p.1.2 p.2.2
def jU(c:a1)(w:z1')(jg:Int):Option Int:=(ei 0 9).findSome? λu=>Ej c.2.2.2.1 jg (g_ c w u)
theorem al9{l:List bB}{i:Nat}(h:i+1<(fu hZ l).length):(fu hZ l)[i].2<=(fu hZ l)[i+1].2:=by
 have:=List.pairwise_iff_getElem.1 (alw l) i (i+1) (by omega) h (by omega);omega
theorem Ek{c:a1}(aC:gZ c){w:z1'}(U:pH c w){u:Int}{e:bB}(he:e∈b8 c w u):-30<=e.2/\e.2<=10029:=by
 obtain⟨E,_,ag⟩:=Eh he;have aQ:=(U.at aC E).2.2;have aS:=(AS.1 (aC.AT E)).2.2.1;omega
theorem AW{c:a1}{w:z1'}{u:Int}{e:bB}(he:e∈g_ c w u):e∈b8 c w u:=by
 unfold g_ at he;grind
theorem al_{c:a1}{w:z1'}{u:Int}{i:Nat}(h:i+1<(g_ c w u).length):(g_ c w u)[i].2<=(g_ c w u)[i+1].2:=by
 have key:∀ l,g_ c w u=l->∀ (h:i+1<l.length),l[i].2<=l[i+1].2:=by
  intro l aj h;unfold g_ at aj;split at aj
  ·subst aj;exact al9 h
  grind
 grind
theorem XD{c:a1}(aC:gZ c){w:z1'}(U:pH c w){u:Int}{i:Nat}(h:i+1<(g_ c w u).length):AU (c,(g_ c w u)[i].2,(g_ c w u)[i+1].2):=by
 have ag:=Ek aC U (AW (List.getElem_mem (by omega:i<(g_ c w u).length)));have a6:=Ek aC U (AW (List.getElem_mem h));exact⟨aC.OB,show -100<=(g_ c w u)[i].2 by omega,al_ h,show (g_ c w u)[i+1].2<=11000 by omega⟩
theorem al'{l:List bB}{i:Nat}(h:i<(uz l).length):∃ U:i+1<l.length,(uz l)[i]=(l[i],l[i+1]):=by
 unfold uz at h ⊢;grind
theorem ama{a b:Int}{s:Int×Int}(h:b<=s.1):kk a b s=0:=by unfold kk;omega
def rF:z4'->Prop
 | []=>True
 | s::r=>s.1<=s.2/\(∀ t∈r,s.2<t.1)/\rF r
theorem OC:∀ (cl:z4') (a b n:Int),cl.foldl (λn s=>n - kk a b s) n=n - (cl.map (kk a b)).sum
 | [],a,b,n=>by simp
 | s::r,a,b,n=>by simp only[List.foldl_cons,List.map_cons,List.sum_cons];rw[OC r];omega
theorem XE:∀ (cl:z4') (a b:Int),rF cl->a<=b->(cl.map (kk a b)).sum<=b - a
 | [],a,b,_,h=>by grind
 | s::r,a,b,⟨E,U,ag⟩,h=>by
  simp only[List.map_cons,List.sum_cons];by_cases W:s.2+1<=b
  ·have aK:=XE r (max a (s.2+1)) b ag (by omega);have e:r.map (kk a b)=r.map (kk (max a (s.2+1)) b):=by
    refine List.map_congr_left λt aI=>?_;have:=U t aI;unfold kk;omega
   rw[e];have:kk a b s<=max a (s.2+1) - a:=by unfold kk;omega
   omega
  ·have e:∀ l:z4',(∀ t∈l,b<=t.1)->(l.map (kk a b)).sum=0:=by
    intro l;induction l with
    | nil=>simp
    | cons t l aK=>
     intro aj;simp only[List.map_cons,List.sum_cons];rw[ama (aj t (by simp)),aK λx ah=>aj x (by grind)];rfl
   rw[e r λt aI=>by grind];unfold kk;omega
theorem XF:∀ (cl:z4'),(∀ i,(h:i+1<cl.length)->cl[i].2<cl[i+1].1)->(∀ s∈cl,s.1<=s.2)->rF cl
 | [],_,_=>trivial
 | s::r,h,U=>by
  have M:rF r:=XF r (λi G=>by have:=h (i+1) (by grind);grind) λt aI=>U t (by grind);refine⟨U s (by simp),?_,M⟩;cases r with
  | nil=>simp
  | cons t r=>
   have aY:=h 0 (by simp);simp at aY;intro u hu;rcases List.mem_cons.1 hu with rfl | hu
   ·exact aY
   ·have:=M.2.1 u hu;grind
theorem gZ.amb{c:a1}(h:gZ c):rF c.2.2.2.1:=by
 have hc:=h.iz;unfold AL at hc;rw[List.all_eq_true]at hc;refine XF _ (λi G=>?_) λs aE=>(h.OB.2 s aE).2.1;have:=hc (i+1) (by grind);unfold iQ at this;grind
theorem amc{cl:z4'}{a b:Int}(h:rF cl)(v7:a<=b):0<=l8 cl a b:=by
 unfold l8;rw[OC];have:=XE cl a b h v7;omega
theorem XG:∀ (cl:z4') (a b:Int),0<=(cl.map (kk a b)).sum
 | [],_,_=>by simp
 | s::r,a,b=>by
  simp only[List.map_cons,List.sum_cons];have:=XG r a b;have:0<=kk a b s:=by unfold kk;omega
  omega
theorem amd{cl:z4'}{a b:Int}:l8 cl a b<=b - a:=by
 unfold l8;rw[OC];have:=XG cl a b;omega
theorem ame{cl:z4'}{jg:Int}{l:List bB}{m:Int}(h:Ej cl jg l=some m):∃ i,∃ G:i+1<l.length,l[i].1.1=jg/\ep l[i].1=1/\m=l8 cl l[i].2 l[i+1].2:=by
 unfold Ej at h;rw[Option.map_eq_some_iff]at h;obtain⟨p,ao,rfl⟩:=h;have U:=List.find?_some ao;obtain⟨i,G,rfl⟩:=List.mem_iff_getElem.1 (List.mem_of_find?_eq_some ao);obtain⟨dA,e⟩:=al' G;grind
theorem XH{c:a1}(aC:gZ c){w:z1'}(U:pH c w){jg m:Int}(h:jU c w jg=some m):0<=m/\m<=11000:=by
 unfold jU at h;obtain⟨u,_,hu⟩:=List.exists_of_findSome?_eq_some h;obtain⟨i,G,_,_,rfl⟩:=ame hu;have ao:=XD aC U G;have hm:=amc aC.amb ao.2.2.1;have ag:=Ek aC U (AW (List.getElem_mem (by omega:i<(g_ c w u).length)));have a6:=Ek aC U (AW (List.getElem_mem G));have bM:=@amd c.2.2.2.1 (g_ c w u)[i].2 (g_ c w u)[i+1].2;grind
def H_(c:a1)(w:z1')(amf:Int):Int:=(fv c).foldl (λn s=>if (ep s=1/\iP s=amf)/\(jU c w (lB s)).isSome=true then n+lD c.2.2.2.2 ((jU c w (lB s)).getD 0) else n) 0
def AX(c:a1)(jg:Int):Bool:=(fv c).any λs=>lB s == jg&&ep s == 1
def sZ(c:a1)(w:z1'):Bool:=(List.range w.length).all λi=>b4 (w.getD i 0) (c.1.getD i (0,0)).1 (c.1.getD i (0,0)).2
def iR(c:a1)(w:z1'):Bool:=decide (w.length=c.1.length)&&sZ c w&&(ei 0 9).all λu=>eE (b8 c w u)
theorem XI{c:a1}(aC:gZ c){w:z1'}(aj:w.length=c.1.length)(h:sZ c w=true):pH c w:=by
 refine⟨aj,λn aB=>?_⟩;obtain⟨i,G,rfl⟩:=List.mem_iff_getElem.1 aB;unfold sZ at h;rw[List.all_eq_true]at h;have E:=h i (by grind);rw[sX G,sX (by omega:i<c.1.length),oU]at E;have:=aC.clk _ (List.getElem_mem (by omega:i<c.1.length));omega
def kl:z4'->Nat
 | []=>1
 | s::r=>(s.2 - s.1+1).toNat*kl r
def nk(c:a1):z4'->z1'->List (z1')
 | [],w=>if iR c w=true then [w] else []
 | s::r,w=>(ei s.1 s.2).flatMap λn=>nk c r (w++[n])
theorem OD{ak β:Type}(f:ak->List β)(k:Nat):∀ (l:List ak),(∀ x∈l,(f x).length<=k)->(l.flatMap f).length<=l.length*k
 | [],_=>by simp
 | x::l,h=>by
  simp only[List.flatMap_cons,List.length_append,List.length_cons];have:=OD f k l λy aR=>h y (by grind);grind
theorem OE(c:a1):∀ (r:z4') (w:z1'),(nk c r w).length<=kl r
 | [],w=>by unfold nk kl;grind
 | s::r,w=>by
  unfold nk kl;have:=OD (λn=>nk c r (w++[n])) (kl r) (ei s.1 s.2) λn _=>OE c r _;rw[sL]at this;omega
theorem XJ{ak β:Type}(f:ak->List β):∀ (l:List ak) (b:List β),l.foldl (λb x=>b++f x) b=b++l.flatMap f
 | [],b=>by simp
 | x::l,b=>by simp only[List.foldl_cons,List.flatMap_cons];rw[XJ f l,List.append_assoc]
abbrev cQ(c:a1):List (z1'):=nk c c.1 []
def amg(c:a1):Prop:=cx c=0->kl c.1<=60
def gJ(c:a1):Prop:=HV c/\amg c
theorem gJ.fL{c:a1}(h:gJ c):iy c:=by
 obtain⟨⟨E,U,ag,a6⟩,_⟩:=h;exact⟨by omega,by omega,by omega,by omega⟩
def dN(c:a1)(b:Bool):List (z1')×Int:=if cx c≠0 then ([],cx c) else if b=false then ([],1) else if cQ c=[] then ([],3) else (cQ c,0)
theorem OF(c:a1):∀ (r:z4') (w x:z1'),x∈nk c r w->iR c x=true
 | [],w,x,h=>by
  unfold nk at h;grind
 | s::r,w,x,h=>by
  unfold nk at h;rw[List.mem_flatMap]at h;obtain⟨n,_,aB⟩:=h;exact OF c r _ x aB
theorem El{c:a1}(h:cx c=0){w:z1'}(hw:iR c w=true):pH c w:=by
 unfold iR at hw;simp only[Bool.and_eq_true,decide_eq_true_eq]at hw;exact XI (oX h) hw.1.1 hw.1.2
theorem Ia{c:a1}{w:z1'}(hw:iR c w=true){u:Int}(hu:0<=u/\u<=9):eE (b8 c w u)=true:=by
 unfold iR at hw;simp only[Bool.and_eq_true,List.all_eq_true]at hw;exact hw.2 u (sM.2 hu)
theorem amh{c:a1}{b:Bool}{w:z1'}(h:w∈(dN c b).1):cx c=0/\w∈cQ c/\iR c w=true/\pH c w:=by
 unfold dN at h;split at h
 ·grind
 ·rename_i hc;have hc:cx c=0:=by omega
  split at h
  ·grind
  ·split at h
   ·grind
   ·have:=OF c _ _ _ h;exact⟨hc,h,this,El hc this⟩
def Ib:Option (Int×Int)->Int->Int×Int
 | none,n=>(n,n)
 | some s,n=>(min s.1 n,max s.2 n)
def yi(l:z1'):Option (Int×Int):=l.foldl (λo n=>some (Ib o n)) none
def uA(l:z1'):Int×Int:=(yi l).getD (0,0)
theorem ami(a b c:Int):cg.sh (a,b,c)=A.pure (b4 a b c):=rfl
def lE(c:a1)(jg:Int):z1'×Int:=if (dN c (AX c jg)).2≠0 then ([],(dN c (AX c jg)).2) else if (dN c (AX c jg)).1.filterMap (λw=>jU c w jg)=[] then ([],3) else ((dN c (AX c jg)).1.filterMap (λw=>jU c w jg),0)
def Ic(c:a1)(n:Int):(Int×Int)×Int:=(uA (lE c n).1,(lE c n).2)
abbrev Ie:aL:=⟨.az iO bw,.az mG bw,λx=>gJ x.1,λx=>Ic x.1 x.2⟩
def AY(c:a1)(n:Int):(Int×Int)×Int:=(uA ((lE c n).1.map λm=>lD c.2.2.2.2 m),(lE c n).2)
abbrev AZ:aL:=⟨.az iO bw,.az mG bw,λx=>gJ x.1,λx=>AY x.1 x.2⟩
def If(c:a1)(g:Int):(Int×Int)×Int:=(uA ((dN c (b4 g 0 99)).1.map λw=>H_ c w g),(dN c (b4 g 0 99)).2)
abbrev Ig:aL:=⟨.az iO bw,.az mG bw,λx=>gJ x.1,λx=>If x.1 x.2⟩
def Ih(c:a1)(t:Int):(Int×Int)×Int:=(uA ((dN c (b4 t 0 9999)).1.map λw=>H9 c w t*c.2.2.2.2.2.2.2.2.2.2),(dN c (b4 t 0 9999)).2)
abbrev Ii:aL:=⟨.az iO bw,.az mG bw,λx=>gJ x.1,λx=>Ih x.1 x.2⟩
def wa(u t:Int):Bool:=b4 u 0 9&&b4 t 0 9999
def OG(c:a1)(u t:Int):z1':=(dN c (wa u t)).1.map λw=>(nj (g_ c w u) t).1
def rG(c:a1)(u t:Int):z1'×Int:=((ei (-1) 99).filter λg=>(OG c u t).contains g,(dN c (wa u t)).2)
abbrev Ij:aL:=⟨.az iO (.az bw bw),.az fF bw,λx=>gJ x.1,λx=>rG x.1 x.2.1 x.2.2⟩
def Em(c:a1)(w:z1')(u t:Int):Bool:=decide ((nj (g_ c w u) t).1>=0)&&decide (l8 c.2.2.2.1 (nj (g_ c w u) t).2 t>=c.2.2.2.2.2.2.2.2.1)
def oY(c:a1)(l:List (z1'))(u t:Int):Nat:=(l.filter λw=>Em c w u t).length
def s3(c:a1)(t:Int):z1'×z1'×Int:=
 if (dN c (b4 t 0 9999)).2≠0 then ([],[],(dN c (b4 t 0 9999)).2)
 else ((ei 0 9).filter (λu=>decide (oY c (dN c (b4 t 0 9999)).1 u t=(dN c (b4 t 0 9999)).1.length)),(ei 0 9).filter (λu=>decide (oY c (dN c (b4 t 0 9999)).1 u t > 0)),0)
abbrev Ik:aL:=⟨.az iO bw,.az fF (.az fF bw),λx=>gJ x.1,λx=>s3 x.1 x.2⟩
theorem OH:∀ (l:List bB) (t:Int) (b:Int×Int),(∀ e∈l,(0<=iP e.1))->(l.foldl (λb e=>if e.2<=t then (if ep e.1=2 then (-1,e.2) else (iP e.1,e.2)) else b) b=b\/∃ e∈l,e.2<=t/\l.foldl (λb e=>if e.2<=t then (if ep e.1=2 then (-1,e.2) else (iP e.1,e.2)) else b) b=(if ep e.1=2 then (-1,e.2) else (iP e.1,e.2)))
 | [],t,b,_=>.inl rfl
 | x::l,t,b,h=>by
  simp only[List.foldl_cons];by_cases ah:x.2<=t
  ·rw[if_pos ah];rcases OH l t (if ep x.1=2 then (-1,x.2) else (iP x.1,x.2)) λe he=>h e (by grind) with E | ⟨e,he,E,U⟩
   ·exact .inr ⟨x,by simp,ah,E⟩
   ·exact .inr ⟨e,by simp[he],E,U⟩
  ·rw[if_neg ah];rcases OH l t b λe he=>h e (by grind) with E | ⟨e,he,E,U⟩
   ·exact .inl E
   ·exact .inr ⟨e,by simp[he],E,U⟩
theorem amj{c:a1}(aC:gZ c){w:z1'}(U:pH c w){u t:Int}(aI:t<=9999)(h:(nj (g_ c w u) t).1>=0):AU (c,(nj (g_ c w u) t).2,t):=by
 rcases OH (g_ c w u) t (-1,0) (λe he=>((AS.1 (aC.AT (Eh (AW he)).1)).2.2.2.2.1).1) with E | ⟨e,he,E,ag⟩
 ·unfold nj at h;grind
 ·have:=Ek aC U (AW he);have aO:(nj (g_ c w u) t).2=e.2:=by
   unfold nj;grind
  exact⟨aC.OB,by grind,by grind,show t<=11000 by omega⟩
abbrev kH(z:ho):a1:=(z.1,z.2.1,z.2.2.1,z.2.2.2.1,z.2.2.2.2.1,z.da,z.ft,z.gP,z.ir,z.jR,z.kY)
abbrev OI(z:ho):List ba:=z.hN
abbrev XK(z:ho):List (Option dR):=z.nh
abbrev En(c:a1)(l:List ba)(t:List (Option dR)):ho:=(c.1,c.2.1,c.2.2.1,c.2.2.2.1,c.2.2.2.2.1,c.2.2.2.2.2.1,c.2.2.2.2.2.2.1,c.2.2.2.2.2.2.2.1,c.2.2.2.2.2.2.2.2.1,c.2.2.2.2.2.2.2.2.2.1,c.2.2.2.2.2.2.2.2.2.2,l,t,())
def uB(l:List ba)(w:z1')(u:Int):List bB:=(l.filter λs=>decide (uu s=u)).map λs=>(s,yc s+w.getD (pD s).toNat 0)
theorem amk{l:List ba}{w:z1'}{i:Nat}(h:i<l.length)(u:Int):uB (l.take (i+1)) w u=if l[i].2.2.2.2.1=u then uB (l.take i) w u++[(l[i],yc l[i]+w.getD (pD l[i]).toNat 0)] else uB (l.take i) w u:=by
 unfold uB;rw[List.take_add_one,List.getElem?_eq_getElem h,Option.toList_some,List.filter_append,List.map_append];grind
theorem XL(l:List ba)(w:z1')(u:Int):(uB l w u).length<=l.length:=by
 unfold uB;grind
abbrev nl(c:a1)(w:z1'):List (List bB):=[b8 c w 0,b8 c w 1,b8 c w 2,b8 c w 3,b8 c w 4,b8 c w 5,b8 c w 6,b8 c w 7,b8 c w 8,b8 c w 9]
def s4(c:a1)(w:z1'):Bool:=(ei 0 9).all λu=>eE (b8 c w u)
theorem aml(c:a1)(w:z1'):s4 c w=(eE (b8 c w 0)&&(eE (b8 c w 1)&&(eE (b8 c w 2)&&(eE (b8 c w 3)&&(eE (b8 c w 4)&&(eE (b8 c w 5)&&(eE (b8 c w 6)&&(eE (b8 c w 7)&&(eE (b8 c w 8)&&eE (b8 c w 9)))))))))):=by
 unfold s4;rw[show ei 0 9=[0,1,2,3,4,5,6,7,8,9] from by decide];simp
abbrev amm(x:z1'×ho):Prop:=cx (kH x.2)=0/\pH (kH x.2) x.1/\OI x.2=fv (kH x.2)
def uC(x:z1'×ho):A (Option dR×Bool×ho):=A.dS (amm x) (if s4 (kH x.2) x.1=true then (some (x.1,nl (kH x.2) x.1),true,x.2) else (none,false,x.2))
theorem amn{bn aJ:Type}{body:Int×Int×Int×bn->A (V (Int×Int×Int×bn) aJ)}(l:List bB){a n:Int}{z:bn}(bad s5:aJ)
  (W:∀ i,i<l.length->body (a,n,(i:Int),z)=A.pure (if (!qB l i)=true then .done bad else .next (a,n,((i+1:Nat):Int),z)))
  (he:body (a,n,(l.length:Int),z)=A.pure (.done s5)):A.loop body (a,n,0,z)=A.pure (if eE l=true then s5 else bad):=by
 rw[A.du (List.range l.length) (λi (_:Unit)=>(a,n,(i:Int),z)) (λi b=>if (!qB l i)=true then .done bad else .next b) (λ_=>s5) () ?_ ?_ ?_]
 ·rw[kh (q:=qB l) _ _ (λ_=>rfl)];rfl
 ·rfl
 ·intro i G b;have G:i<l.length:=by grind
  rw[W i G,List.getElem_range];cases qB l i<;>rfl
 grind
theorem XM{X:Type}{l:List bB}(aj:l.length<=12){i:Nat}(G:i<l.length){k:Int}(an:k=1+((i % 2:Nat):Int))(aM B:A X):Oh l l[i] i k aM B=if (!qB l i)=true then aM else B:=by
 unfold Oh;have zD:=al0 l i;rw[Bool.or_comm,sX G]at zD;have ax:(decide (l[i].1.2.2.2.1≠k)||decide ((i:Int) > 0)&&decide (l[i].2=(List.getD l (Int.toNat (IntKind.wrap .i64 ((i:Int) - 1))) ((0,0,0,0,0,0),0)).2))=!qB l i:=by
  rw[<-zD,an];rcases Nat.eq_zero_or_pos i with aY | aY
  ·simp_all
  ·rw[bA (n:=(i:Int) - 1) (by omega) (by omega),show ((i:Int) - 1).toNat=i - 1 from by omega]
 rw[ax];have bM:decide ((i:Int) > 0)=true->(0<=IntKind.wrap .i64 ((i:Int) - 1)/\IntKind.wrap .i64 ((i:Int) - 1)<Int.ofNat (List.length l)):=λh=>by
  have h:=of_decide_eq_true h;rw[bA (n:=(i:Int) - 1) (by omega) (by omega),bW];omega
 simp_all
theorem amo{l:List bB}(h:l.length<=12):AI (l7.sh,l,())=A.pure (fu hZ l,()):=A.bS ⟨h,rfl⟩ _
theorem amp{l:List ba}{w:z1'}{c:a1}(aj:l.length<=12)(aE:∀ s∈l,lC c.1.length s=true)(hw:pH c w){i:Nat}(G:i<l.length):0<=l[i].2.2.2.2.1/\l[i].2.2.2.2.1<=9/\(0<=l[i].2.1/\l[i].2.1<(w.length:Int))/\IntKind.wrap .i64 (l[i].2.2.1+w.getD l[i].2.1.toNat 0)=l[i].2.2.1+w.getD l[i].2.1.toNat 0:=by
 have h:=AS.1 (aE _ (List.getElem_mem G));have E:pD l[i]<(w.length:Int):=by rw[hw.1];omega
 have U:=hw.2 _ (x5 (d:=0) h.2.1.1 E);have ag:=h.2.2.1;have a6:=h.2.2.2.1;exact⟨a6.1,a6.2,⟨h.2.1.1,E⟩,bA (by grind) (by grind)⟩
abbrev n8(f:Nat->List bB)(c:ho):lA:=(f 0,f 1,f 2,f 3,f 4,f 5,f 6,f 7,f 8,f 9,c)
theorem OJ{f g:Nat->List bB}(h:∀ u,u<10->f u=g u)(c:ho):n8 f c=n8 g c:=by
 simp only[n8,h 0 (by decide),h 1 (by decide),h 2 (by decide),h 3 (by decide),h 4 (by decide),h 5 (by decide),h 6 (by decide),h 7 (by decide),h 8 (by decide),h 9 (by decide)]
theorem OK(f:Nat->List bB)(c:ho):∀ k,k<10->mF k (n8 f c)=f k
 | 0,_ | 1,_ | 2,_ | 3,_ | 4,_ | 5,_ | 6,_ | 7,_ | 8,_ | 9,_=>rfl
 | k+10,h=>by omega
theorem XN(f:Nat->List bB)(c:ho)(v:List bB):∀ k,k<10->HQ k v (n8 f c)=n8 (λj=>if j=k then v else f j) c
 | 0,_ | 1,_ | 2,_ | 3,_ | 4,_ | 5,_ | 6,_ | 7,_ | 8,_ | 9,_=>rfl
 | k+10,h=>by omega
theorem XO{X:Type}(f:Nat->A X){v:Int}{u:Nat}(h:v=(u:Int)):∀ {n:Nat},u<=n->HS f v n=f u
 | 0,hu=>by
  obtain rfl:u=0:=by omega
  rfl
 | n+1,hu=>by
  unfold HS;simp only[hY,bW,h];by_cases e:u=n+1
  ·rw[if_pos (by omega),e]
  ·rw[if_neg (by omega)];exact XO f rfl (by omega)
theorem amq{c:a1}{w:z1'}(kc:∀ u,(b8 c w u).length<=12){z:ho}{g:Nat->List bB}{k:Nat}(an:k<10)(aC:g k=b8 c w k) :
  A.loop (HR k) (Int.ofNat k,Int.ofNat (List.length (b8 c w k)),0,w,n8 g z)=A.pure (if eE (b8 c w k)=true then .next (Int.ofNat k,w,n8 g z) else .done (.done (none,false,z))):=by
 have ax:mF k (n8 g z)=b8 c w k:=(OK g z k an).trans aC;refine amn (b8 c w k) _ _ (λi G=>?_) ?_
 ·have hw:=bA (n:=(i:Int)+1) (by omega) (by have:=kc k;omega);unfold HR;simp only[bW,cV G,if_true,ax,cN G,dh G,A.bq];rcases Nat.mod_two_eq_zero_or_one i with hm | hm
  ·have aw:decide (Int.tmod (i:Int) 2=1)=false:=by rw[Xy,hm];rfl
   simp only[aw,Bool.false_eq_true,if_false,A.Fo,A.aG,A.bZ];rw[A.bu (by decide),ax];refine (XM (kc k) G (by rw[hm];rfl) _ _).trans ?_;simp only[cj,hw];cases qB (b8 c w k) i<;>rfl
  ·have aw:decide (Int.tmod (i:Int) 2=1)=true:=by rw[Xy,hm];rfl
   simp only[aw,if_true,A.Fo,A.aG,A.bZ];rw[A.bu (by decide),ax];refine (XM (kc k) G (by rw[hm];rfl) _ _).trans ?_;simp only[cj,hw];cases qB (b8 c w k) i<;>rfl
 ·unfold HR;simp
theorem XP{c:a1}{w:z1'}(hlen:∀ u,(oW c w u).length<=12)(kc:∀ u,(b8 c w u).length<=12){z:ho}:∀ n k,k+n=10->
  D9 AI l7.sh n k (w,n8 (λu=>if u<k then b8 c w u else oW c w u) z)=A.pure (if ((List.range' k n).all λu=>eE (b8 c w u))=true then .next (w,n8 (λu=>b8 c w u) z) else .done (none,false,z))
 | 0,k,h=>by
  unfold D9;rw[OJ (g:=λu=>b8 c w u) λu hu=>if_pos (by omega)];rfl
 | n+1,k,h=>by
  have an:k<10:=by omega
  have aE:AI (l7.sh,oW c w k,())=A.pure (b8 c w k,()):=amo (hlen k);have hw:=bA (n:=(k:Int)+1) (by omega) (by omega);have aO:HQ k (b8 c w k) (n8 (λu=>if u<k then b8 c w u else oW c w u) z)=n8 (λu=>if u<k+1 then b8 c w u else oW c w u) z:=by
   rw[XN _ _ _ _ an];exact OJ (λu hu=>by
    by_cases e:u=k
    ·subst e;simp
    ·by_cases aO:u<k
     ·simp[e,aO,show u<k+1 by omega]
     ·simp[e,aO,show ¬u<k+1 by omega]) _
  unfold D9;dsimp only;rw[A.bu (by simp only[bW];omega),OK _ _ _ an,if_neg (Nat.lt_irrefl k),aE,A.aG];simp only[aO];rw[amq kc an (if_pos (Nat.lt_succ_self k)),A.aG,List.range'_succ,List.all_cons];cases eE (b8 c w k) with
  | false=>rfl
  | true=>
   simp only[if_true,Bool.true_and,A.bZ];rw[A.bu (by simp only[bW,cj,hw];omega)];exact XP hlen kc n (k+1) (by omega)
theorem OL(x):A.le (W6 oV.sh AI l7.sh x) (uC x):=A.br λh=>by
 obtain⟨w,z⟩:=x;obtain⟨E,U,ag⟩:=h;change cx (kH z)=0 at E;change pH (kH z) w at U;change z.hN=fv (kH z) at ag;show _=A.pure (if s4 (kH z) w=true then (some (w,nl (kH z) w),true,z) else (none,false,z));generalize uc:kH z=c at *
 have aC:=oX E;have aj:=aC.OA;have pa:∀ s∈fv c,lC c.1.length s=true:=λs aE=>aC.AT aE;have aB:=aC.ec;have hlen:∀ u,(oW c w u).length<=12:=λu=>Nat.le_trans (XL (fv c) w u) aj;have kc:∀ u,(b8 c w u).length<=12:=λu=>Eg aC w u;have pI:∀ u,uB z.hN w u=oW c w u:=λu=>by rw[ag];rfl
 rw[<-ag]at aj pa;clear ag;unfold W6;rw[show oV.sh w=A.pure w from A.bS (show w.length<=3000000 by have:=U.1;omega) _];simp only[A.aG,A.bZ,A.bq];refine (congrArg (λm=>A.bind m _) (A.du z.hN (λi (_:Unit)=>(w,z.hN,(z.hN.length:Int),(i:Int),w,n8 (λu=>uB (z.hN.take i) w u) z)) (λ_ b=>.next b) (λ_=>.next (w,n8 (λu=>oW c w u) z)) () ?_ ?_ ?_)).trans ?_
 ·simp only[bW,List.take_zero];rfl
 ·intro i G b;obtain⟨aQ,aS,bP,gy⟩:=amp (c:=c) aj pa U G;have hw:=bA (n:=(i:Int)+1) (by omega) (by omega);have iE:∀ u,bQ (Add.add (uB (z.hN.take i) w u).length (Add.add 0 1)):=λu=>gf (by have:=XL (z.hN.take i) w u;rw[List.length_take]at this;simp only[hY];omega);obtain⟨u,hu⟩:∃ u:Nat,z.hN[i].2.2.2.2.1=(u:Int):=⟨z.hN[i].2.2.2.2.1.toNat,by omega⟩
  have amr:u<=9:=by omega
  simp only[bW,cV G,if_true,dh G,cN G,A.bq];rw[A.bu (show (0<=z.hN[i].2.2.2.2.1/\z.hN[i].2.2.2.2.1<((10:Nat):Int)) from⟨aQ,by omega⟩),XO _ hu amr];unfold W5;simp only[dh G,bW,OK _ _ u (show u<10 by omega),XN _ _ _ u (show u<10 by omega)];rw[A.bu trivial,A.bu (by omega),A.bu bP,A.bu (iE _),A.bu trivial,A.bu (by omega),A.aG,A.bZ];simp only[cj,hw,gy];refine congrArg (λq=>A.pure (V.next (w,z.hN,(z.hN.length:Int),((i:Int)+1),w,q))) ?_;refine OJ (λj aF=>?_) _;rw[amk G,hu];by_cases e:j=u
  ·subst e;rw[if_pos rfl,if_pos rfl,<-hu]
  ·rw[if_neg e,if_neg (by omega)]
 ·intro b;simp only[List.take_length,pI];simp
 ·rw[dQ,A.aG,A.bZ];have bH:=XP (c:=c) (w:=w) hlen kc (z:=z) 10 0 rfl;rw[A.bu (by decide)];rw[show (λu:Nat=>if u<0 then b8 c w u else oW c w u)=λu:Nat=>oW c w u from funext λu=>if_neg (Nat.not_lt_zero u)]at bH;rw[bH,A.aG];have ax:((List.range' 0 10).all λu=>eE (b8 c w u))=s4 c w:=by
   rw[aml];simp[List.range']
  rw[ax];cases s4 c w<;>rfl
abbrev iu(c:a1)(w:z1'):Option dR:=some (w,nl c w)
abbrev ams(f:Nat)(x:z1'×ho):Prop:=cx (kH x.2)=0/\OI x.2=fv (kH x.2)/\x.1.length<=(kH x.2).1.length/\(kH x.2).1.length<x.1.length+f/\sZ (kH x.2) x.1=true/\(XK x.2).length+kl ((kH x.2).1.drop x.1.length)<=60
def yj(f:Nat)(x:z1'×ho):A ho:=A.dS (ams f x) (En (kH x.2) (OI x.2) (XK x.2++(nk (kH x.2) ((kH x.2).1.drop x.1.length) x.1).map (iu (kH x.2))))
theorem amt(x):¬(yj 0 x).cm:=λh=>by have E:=h.2.2.1;have U:=h.2.2.2.1;omega
theorem amu{c:a1}{w:z1'}{n:Int}:sZ c (w++[n])=(sZ c w&&b4 n (c.1.getD w.length (0,0)).1 (c.1.getD w.length (0,0)).2):=by
 unfold sZ;grind
theorem amv{c:a1}{w:z1'}(aj:w.length=c.1.length)(h:sZ c w=true):iR c w=s4 c w:=by
 unfold iR s4;grind
set_option maxHeartbeats 1000000 in
theorem amw(f:Nat)(x):A.le (W8 (yj f) uC x) (yj (f+1) x):=A.br λh=>by
 obtain⟨w,a0,b9,a2,a3,a4,a5,fH,fI,h0,a9,hA,l,t,u⟩:=x;obtain⟨E,U,ag,a6,bM,dn⟩:=h;change cx (a0,b9,a2,a3,a4,a5,fH,fI,h0,a9,hA)=0 at E;change l=fv (a0,b9,a2,a3,a4,a5,fH,fI,h0,a9,hA) at U;change w.length<=a0.length at ag;change a0.length<w.length+(f+1) at a6;change sZ (a0,b9,a2,a3,a4,a5,fH,fI,h0,a9,hA) w=true at bM;change t.length+kl (a0.drop w.length)<=60 at dn;show _=A.pure (En (a0,b9,a2,a3,a4,a5,fH,fI,h0,a9,hA) l (t++(nk (a0,b9,a2,a3,a4,a5,fH,fI,h0,a9,hA) (a0.drop w.length) w).map (iu (a0,b9,a2,a3,a4,a5,fH,fI,h0,a9,hA))));have aC:=oX E;have aB:a0.length<=3:=aC.ec;unfold W8;simp only[Prod.da,Prod.ft,Prod.gP,Prod.ir,Prod.jR,Prod.kY,Prod.hN,Prod.nh,Prod.pC,Prod.sO,Prod.x',Prod.DZ,Prod.D0,Prod.D1,Prod.D2,bW,A.bq];by_cases aj:w.length=a0.length
 ·rw[if_pos (by simp only[decide_eq_true_eq];omega)];have amx:pH (a0,b9,a2,a3,a4,a5,fH,fI,h0,a9,hA) w:=XI aC aj bM;have af:uC (w,a0,b9,a2,a3,a4,a5,fH,fI,h0,a9,hA,l,t,())=A.pure (if s4 (a0,b9,a2,a3,a4,a5,fH,fI,h0,a9,hA) w=true then (iu (a0,b9,a2,a3,a4,a5,fH,fI,h0,a9,hA) w,true,a0,b9,a2,a3,a4,a5,fH,fI,h0,a9,hA,l,t,()) else (none,false,a0,b9,a2,a3,a4,a5,fH,fI,h0,a9,hA,l,t,())):=A.bS ⟨E,amx,U⟩ _;rw[af,A.aG,aj,List.drop_length];unfold nk;rw[amv aj bM];cases an:s4 (a0,b9,a2,a3,a4,a5,fH,fI,h0,a9,hA) w with
  | true=>
   rw[if_pos rfl,if_pos rfl,A.bu (gf (by simp only[hY];omega)),A.aG,A.bZ];rfl
  | false=>
   simp only[Bool.false_eq_true,if_false,A.aG,A.bZ,List.map_nil,List.append_nil]
 ·have cc:w.length<a0.length:=by omega
  rw[if_neg (by simp only[decide_eq_true_eq];omega),A.bu (show (0:Int)<=(w.length:Int)/\(w.length:Int)<(a0.length:Int) by omega)];rw[List.drop_eq_getElem_cons cc]at dn ⊢;simp only[Int.toNat_natCast,sX cc];have aE:=aC.clk _ (List.getElem_mem cc);change -30<=a0[w.length].1/\a0[w.length].1<=a0[w.length].2/\a0[w.length].2<=30 at aE;have nm:a0.getD w.length (0,0)=a0[w.length]:=sX cc;generalize a0[w.length]=s at *
  unfold kl at dn;have Eo:∀ n (ts:List (Option dR)),s.1<=n->n<=s.2->ts.length+kl (a0.drop (w.length+1))<=60->yj f (w++[n],a0,b9,a2,a3,a4,a5,fH,fI,h0,a9,hA,l,ts,())=A.pure (En (a0,b9,a2,a3,a4,a5,fH,fI,h0,a9,hA) l (ts++(nk (a0,b9,a2,a3,a4,a5,fH,fI,h0,a9,hA) (a0.drop (w.length+1)) (w++[n])).map (iu (a0,b9,a2,a3,a4,a5,fH,fI,h0,a9,hA)))):=by
   intro n ts aQ aS bP;refine (A.bS ⟨E,U,?_,?_,?_,?_⟩ _).trans (congrArg A.pure ?_)
   ·show En (a0,b9,a2,a3,a4,a5,fH,fI,h0,a9,hA) l (ts++(nk (a0,b9,a2,a3,a4,a5,fH,fI,h0,a9,hA) (a0.drop (w++[n]).length) (w++[n])).map (iu (a0,b9,a2,a3,a4,a5,fH,fI,h0,a9,hA)))=_;rw[List.length_append,List.length_singleton]
   ·show (w++[n]).length<=a0.length;simp;omega
   ·show a0.length<(w++[n]).length+f;simp;omega
   ·show sZ (a0,b9,a2,a3,a4,a5,fH,fI,h0,a9,hA) (w++[n])=true;rw[amu,bM];show (true&&b4 n (a0.getD w.length (0,0)).1 (a0.getD w.length (0,0)).2)=true;rw[nm,Bool.true_and];exact oU.2 ⟨aQ,aS⟩
   ·show ts.length+kl (a0.drop (w++[n]).length)<=60;rw[List.length_append,List.length_singleton];exact bP
  rw[A.f' (ei s.1 s.2) (λi (ts:List (Option dR))=>(w,(w.length:Int),s.1+(i:Int),a0,b9,a2,a3,a4,a5,fH,fI,h0,a9,hA,l,ts,())) (λn ts=>.next (ts++(nk (a0,b9,a2,a3,a4,a5,fH,fI,h0,a9,hA) (a0.drop (w.length+1)) (w++[n])).map (iu (a0,b9,a2,a3,a4,a5,fH,fI,h0,a9,hA)))) (λts=>(a0,b9,a2,a3,a4,a5,fH,fI,h0,a9,hA,l,ts,())) (λi ts=>ts.length<=t.length+i*kl (a0.drop (w.length+1))) t ?_ ?_ ?_ ?_]
  ·rw[dQ,XJ (f:=λn=>(nk (a0,b9,a2,a3,a4,a5,fH,fI,h0,a9,hA) (a0.drop (w.length+1)) (w++[n])).map (iu (a0,b9,a2,a3,a4,a5,fH,fI,h0,a9,hA)))];rw[<-List.map_flatMap];rfl
  ·rw[Int.natCast_zero,Int.add_zero]
  ·simp
  ·intro i G ts af;rw[sL]at G;have hw:=bA (n:=s.1+(i:Int)+1) (by omega) (by omega);have aw:decide (s.1+(i:Int)<=s.2)=true:=by simpa using (by omega:s.1+(i:Int)<=s.2)
   have hle:=OE (a0,b9,a2,a3,a4,a5,fH,fI,h0,a9,hA) (a0.drop (w.length+1)) (w++[s.1+(i:Int)]);have amy:ts.length+kl (a0.drop (w.length+1))<=60:=by
    have:(i+1)*kl (a0.drop (w.length+1))<=(s.2 - s.1+1).toNat*kl (a0.drop (w.length+1)):=Nat.mul_le_mul_right _ (by omega);rw[Nat.succ_mul]at this;omega
   refine⟨?_,λbf dc=>?_⟩
   ·simp only[Int.toNat_natCast,nm,aw,if_true,cj,hw,Ar,List.take_length];rw[A.bu (by omega),A.bu ⟨by omega,by omega,trivial,by omega⟩,A.bu ⟨by simp only[hY];omega,gf (by simp only[hY];omega)⟩,Eo _ ts (by omega) (by omega) amy,A.aG];simp only[V.hn];rw[show s.1+((i+1:Nat):Int)=s.1+(i:Int)+1 from by omega]
   ·simp only[V.next.injEq,Ar]at dc;subst dc;rw[List.length_append,List.length_map,Nat.succ_mul];omega
  ·intro ts af;rw[sL];have aw:decide (s.1+(((s.2 - s.1+1).toNat:Nat):Int)<=s.2)=false:=by simpa using (by omega:s.2<s.1+(((s.2 - s.1+1).toNat:Nat):Int))
   simp only[Int.toNat_natCast,nm,aw,Bool.false_eq_true,if_false,A.aG];rw[A.bu (by omega)]
abbrev uD:a1:=([],[],[],[],0,0,0,0,0,0,0)
abbrev A0:aL:=⟨.az hp (.bI iO),de,λx=>∃ c:a1,x.2=some c/\c.2.2.1.length<2 ^ 63,λx=>(x.2.getD uD).2.2.1.contains (lB x.1)⟩
theorem OM(x):A.le (WI mH.sh x) (A0.sh x):=A.br λh=>by
 obtain⟨s,o⟩:=x;obtain⟨c,hc,h⟩:=h;change o=some c at hc;subst hc;unfold WI;simp only[Option.getD_some];rw[show mH.sh (c.2.2.1,s.1)=A.pure (c.2.2.1.contains s.1) from A.bS h _,A.aG]
abbrev uE(c:a1):ea:=(c,fv c,(cQ c).map (iu c))
def Ep(c:a1)(f:Option ea->A Bool):Bool:=(f (some (c,fv c,[]))).val false
def s6(c:a1)(b:Bool):Option ea×Int:=if cx c≠0 then (none,cx c) else if b=false then (none,1) else if cQ c=[] then (none,3) else (some (uE c),0)
abbrev wb:aL:=⟨.az iO (.fn (.bI sQ) .bool),.az (.bI sQ) bw,λx=>gJ x.1/\(cx x.1=0->∃ b,x.2 (some (x.1,fv x.1,[]))=A.pure b),λx=>s6 x.1 (Ep x.1 x.2)⟩
theorem amz{c:a1}(aC:gZ c):H7 ((λs=>A0.sh (s,some c)),gY c.2.1,())=A.pure ((0,(fv c).length),fv c++List.replicate ((gY c.2.1).length - (fv c).length) jx,()):=by
 have ae:∀ s,A0.sh (s,some c)=A.pure (c.2.2.1.contains s.1):=λs=>A.bS ⟨c,rfl,by have:=aC.jm;omega⟩ _;have e:((gY c.2.1).filter λs=>!(A0.sh (s,some c)).val false)=fv c:=by
  unfold fv;simp_all
 have:=alM c.2.1;refine (A.bS ⟨show (gY c.2.1).length<2 ^ 63 by omega,λs _=>⟨_,ae s⟩⟩ _).trans (congrArg A.pure ?_);grind
set_option maxHeartbeats 1000000 in
theorem amA(x):A.le (Wm hs.sh H5 H7 (yj 5) A0.sh x) (wb.sh x):=A.br λh=>by
 obtain⟨c,f⟩:=x;obtain⟨h,aq⟩:=h;change gJ c at h;change cx c=0->∃ b,f (some (c,fv c,[]))=A.pure b at aq;unfold Wm;show _=A.pure (s6 c (Ep c f));unfold s6;rw[show hs.sh c=A.pure (cx c) from A.bS h.fL _];simp only[A.aG,decide_eq_true_eq];by_cases hc:cx c=0
 ·simp only[hc,ne_eq,not_true_eq_false,if_false];have aC:=oX hc;obtain⟨b,W⟩:=aq hc;have E:=aC.ec;have hid:=H6 aC.i_;rw[show H5 (c.2.1,())=A.pure (true,gY c.2.1,()) from A.bS ⟨hid,(AP _).2 aC.AN⟩ _,A.aG];simp only[A.bq];rw[amz aC,A.aG];have pG:List.drop 0 (List.take (fv c).length (fv c++List.replicate ((gY c.2.1).length - (fv c).length) jx))=fv c:=by
   rw[List.drop_zero,List.take_left]
  simp only[pG];unfold Ep;simp only[W,A.fC,A.aG];cases b with
  | false=>simp
  | true=>
   simp only[Bool.not_true,Bool.false_eq_true,if_false,A.aG,A.bZ,reduceCtorEq];simp only[Prod.da,Prod.ft,Prod.gP,Prod.ir,Prod.jR,Prod.kY,Prod.hN,Prod.nh,Prod.pC,Prod.sO,Prod.x',Prod.DZ,Prod.D0,Prod.D1,Prod.D2,pG];have nm:yj 5 ([],c.1,c.2.1,c.2.2.1,c.2.2.2.1,c.2.2.2.2.1,c.2.2.2.2.2.1,c.2.2.2.2.2.2.1,c.2.2.2.2.2.2.2.1,c.2.2.2.2.2.2.2.2.1,c.2.2.2.2.2.2.2.2.2.1,c.2.2.2.2.2.2.2.2.2.2,fv c,[],())=A.pure (En c (fv c) ((cQ c).map (iu c))):=A.bS ⟨hc,rfl,Nat.zero_le _,show c.1.length<0+5 by omega,rfl,show 0+kl c.1<=60 by have:=h.2 hc;omega⟩ _;rw[nm,A.aG];simp only[bW,List.length_map];by_cases aI:cQ c=[]
   ·simp[aI]
   ·have:¬((cQ c).length:Int)=0:=λe=>aI (List.eq_nil_of_length_eq_zero (by omega));simp only[this,aI,if_false]
 ·simp only[hc,ne_eq,not_false_eq_true,if_true]
def wc(l:List (Option dR))(f:Option dR->A (Int×Bool)):Option (Int×Int):=yi (l.filterMap λt=>if ((f t).val (0,false)).2=true then some ((f t).val (0,false)).1 else none)
abbrev A1:aL:=⟨.az (.bI sQ) (.fn (.bI ya) (.az bw .bool)),.az mG .bool,λx=>∃ b:ea,x.1=some b/\b.2.2.length<=60/\∀ t∈b.2.2,∃ r,x.2 t=A.pure r,λx=>((wc (x.1.getD (uD,[],[])).2.2 x.2).getD (0,0),(wc (x.1.getD (uD,[],[])).2.2 x.2).isSome)⟩
theorem XQ{ak β gD:Type}(g:ak->Option β)(h:gD->β->gD):∀ (l:List ak) (b:gD),l.foldl (λb x=>(g x).elim b λy=>h b y) b=(l.filterMap g).foldl h b
 | [],b=>rfl
 | x::l,b=>by
  simp only[List.foldl_cons,List.filterMap_cons];rw[XQ g h l];grind
theorem amB(x):A.le (Wv x) (A1.sh x):=A.br λh=>by
 obtain⟨o,f⟩:=x;obtain⟨b,W,aj,aq⟩:=h;change o=some b at W;subst W;unfold Wv;show _=A.pure ((wc b.2.2 f).getD (0,0),(wc b.2.2 f).isSome);simp only[Option.isSome_some,A.bq,Option.getD_some];change b.2.2.length<=60 at aj;change ∀ t∈b.2.2,∃ r,f t=A.pure r at aq;generalize b.2.2=l at *
 rw[A.du l (λi (o:Option (Int×Int))=>(f,o.isSome,l,(l.length:Int),(i:Int),o.getD (0,0),())) (λt o=>.next ((if ((f t).val (0,false)).2=true then some ((f t).val (0,false)).1 else none).elim o λn=>some (Ib o n))) (λo=>.next (o.isSome,o.getD (0,0),())) none ?_ ?_ ?_]
 ·rw[dQ,XQ (λt=>if ((f t).val (0,false)).2=true then some ((f t).val (0,false)).1 else none) (λo n=>some (Ib o n)),A.aG];rfl
 ·rfl
 ·intro i G o;have hw:=bA (n:=(i:Int)+1) (by omega) (by omega);obtain⟨r,M⟩:=aq _ (List.getElem_mem G);simp only[Prod.da,bW,cV G,if_true,dh G,cN G,A.bq,cj,hw,M,A.aG,A.fC,V.hn];obtain⟨n,b7⟩:=r;cases b7 with
  | false=>simp_all
  | true=>
   cases o with
   | none=>simp only[Bool.not_true,Bool.false_eq_true,if_false,if_true,Option.isSome_none,Bool.not_false,A.aG,A.bZ,hw,Option.elim];rfl
   | some s=>
    simp only[Bool.not_true,Bool.false_eq_true,if_false,if_true,Option.isSome_some,A.aG,A.bZ,hw,Option.elim,Option.getD_some];rw[XB,al3];rfl
 simp
section
variable {ak:Type}
def XR(x:Nat×List (Int×ak)×(Nat×(z1'->Prop)×z1'×Bool)×Unit):A ((Nat×(z1'->Prop)×z1'×Bool)×Unit):=
 A.bind (A.pure ()) λy=>A.loop (λ(D:Nat×(Nat×(z1'->Prop)×z1'×Bool)×(Option (Int×ak)×List (Int×ak))×Unit)=>
 A.bind (Gr D.2.2.1.2) λy=>if Option.isSome y=true then A.bind (A.ab (Option.isSome (nV D.2.2.1.1 D.2.2.1.2 y)=true) (A.pure ())) λb3
 =>A.bind (A.ab (D.1=D.2.1.1/\D.2.1.2.2.2=false/\∃ (T:z1'),D.2.1.2.1 (D.2.1.2.2.1++Option.getD (Option.map (λx=>x.1) (nV
 D.2.2.1.1 D.2.2.1.2 y)) 0::T)) (A.any λx=>True)) λdF=>if (!dF)=true then A.bind (A.pure ((D.2.1.1,D.2.1.2.1,D.2.1.2.2.1++
 [Option.getD (Option.map (λx=>x.1) (nV D.2.2.1.1 D.2.2.1.2 y)) 0],!dF),())) λr=>A.pure (V.done r) else A.pure (V.next (D.1,(D.2.1.1,D.2.1.2.1,D.2.1.2.2.1++[Option.getD (Option.map (λx=>x.1) (nV D.2.2.1.1 D.2.2.1.2 y)) 0],!dF),(nV D.2.2.1.1 D.2.2.1.2 y,CU D.2.2.1.2 y),())) else A.bind (A.pure (D.2.1,())) λr=>A.pure (V.done r)) (x.1,x.2.2.1,(none,x.2.1),())
theorem XS{β:Type}:∀ (l:List β) (i:Nat) (h:i<l.length),(l[i]::l.eraseIdx i).Perm l
 | x::l,0,_=>.refl _
 | x::l,i+1,h=>by
  simp only[List.getElem_cons_succ,List.eraseIdx_cons_succ];exact (List.Perm.swap x _ _).trans ((XS l i (by grind)).cons x)
theorem XT(l:Nat)(m:List (Int×ak)):A.cy (XR (l,m,(l,jS (some m),[],false),())) λy=>y.1.2.2.2=false->jS (some m) y.1.2.2.1:=by
 unfold XR;rw[A.aG];refine A.BT (λD=>∃ p c cn,D=(l,(l,jS (some m),p,false),(c,cn),())/\(m.map (·.1)).Perm (p++cn.map (·.1))) (λD=>D.2.2.1.2.length) ?_ _ ⟨[],none,m,rfl,.refl _⟩;rintro D ⟨p,c,cn,rfl,ao⟩;simp only;rw[A.gh];refine⟨trivial,λy aR=>?_⟩;cases y with
 | none=>
  have M:cn=[]:=aR;subst M;simp only[Option.isSome_none,Bool.false_eq_true,if_false,A.aG];refine A.eb.2 λ_=>ux.2 (by grind)
 | some i=>
  have G:i<cn.length:=aR;have aB:nV c cn (some i)=some cn[i]:=List.getElem?_eq_getElem G;have M:CU cn (some i)=cn.eraseIdx i:=rfl;have Er:(m.map (·.1)).Perm (p++cn[i].1::(cn.eraseIdx i).map (·.1)):=ao.trans (List.Perm.append_left p ((XS cn i G).symm.map (·.1)));simp only[Option.isSome_some,if_true,aB,M,A.bq,A.aG,Option.map_some,Option.getD_some];rw[A.gh,A.kM];refine⟨⟨trivial,trivial,(cn.eraseIdx i).map (·.1),ux.2 Er⟩,⟨true,trivial⟩,λb _=>?_⟩;cases b with
  | false=>
   simp only[Bool.not_false,if_true,A.aG];exact A.eb.2 λh=>by cases h
  | true=>
   simp only[Bool.not_true,Bool.false_eq_true,if_false];refine A.eb.2 ⟨⟨p++[cn[i].1],some cn[i],cn.eraseIdx i,rfl,by grind⟩,?_⟩;grind
end
theorem amC(l:Nat)(m:z4'):A.cy (Of (l,m,(l,jS (some m),[],false),())) λy=>y.1.2.2.2=false->jS (some m) y.1.2.2.1:=XT l m
theorem amD(l:Nat)(m:List (Int×ba)):A.cy (Og (l,m,(l,jS (some m),[],false),())) λy=>y.1.2.2.2=false->jS (some m) y.1.2.2.1:=XT l m
def dA(cl:z4'):List bB->List bB
 | a::b::r=>(a.1,l8 cl a.2 b.2)::dA cl r
 | _=>[]
def Es(c:a1)(fZ:List (List bB)):Prop:=fZ.length=10/\∀ l∈fZ,l.length<=12/\∀ i,(h:i+1<l.length)->AU (c,l[i].2,l[i+1].2)
def pJ(c:a1)(fZ:List (List bB)):List bB:=fZ.flatMap (dA c.2.2.2.1)
def s7(x:Option (Option dR)×Option (Option ea))(L:List bB):Prop:=∃ t b,x.1=some (some t)/\x.2=some (some b)/\Es b.1 t.2/\L=pJ b.1 t.2
theorem amE{cl:z4'}{l:List bB}{i:Nat}(h:i+1<l.length):dA cl (l.drop i)=(l[i].1,l8 cl l[i].2 l[i+1].2)::dA cl (l.drop (i+2)):=by
 rw[List.drop_eq_getElem_cons (by omega:i<l.length),List.drop_eq_getElem_cons h];rfl
theorem amF{cl:z4'}{l:List bB}{i:Nat}(h:¬i+1<l.length):dA cl (l.drop i)=[]:=by
 have:(l.drop i).length<=1:=by grind
 match h:l.drop i with
 | []=>rfl
 | [_]=>rfl
 | _::_::_=>grind
set_option maxHeartbeats 1000000 in
theorem amG(fi:Nat)(t:dR)(b:ea)(h:Es b.1 t.2):A.cy (HP v_.sh (fi,some t,some b,(fi,s7 (some (some t),some (some b)),[],false),())) λy=>y.1.2.2.2=false->s7 (some (some t),some (some b)) y.1.2.2.1:=by
 obtain⟨E,U⟩:=h;have Ha:∀ L,s7 (some (some t),some (some b)) L<->L=pJ b.1 t.2:=λL=>⟨λ⟨cY,bf,ax,aO,_,e⟩=>by cases ax;cases aO;exact e,λe=>⟨t,b,rfl,rfl,⟨E,U⟩,e⟩⟩
 generalize s7 (some (some t),some (some b))=S at *
 unfold HP;simp only[Option.isSome_some,A.bq,Option.getD_some];refine A.BT (λD=>∃ (u:Nat),u<=10/\D=(fi,some b,t.2,(u:Int),(fi,S,(t.2.take u).flatMap (dA b.1.2.2.2.1),false),())) (λD=>(10 - D.2.2.2.1).toNat) ?_ _ ⟨0,by omega,rfl⟩;rintro D ⟨u,hu,rfl⟩;by_cases L3:u<10
 ·have aw:decide ((u:Int)<10)=true:=by simpa using (by omega:(u:Int)<10)
  have sG:u<t.2.length:=by omega
  have amH:=bA (n:=(u:Int)+1) (by omega) (by omega);have hm:=List.getElem_mem sG;obtain⟨ag,a6⟩:=U _ hm;simp only[aw,if_true,dh sG];rw[A.bu (show (0:Int)<=(u:Int)/\(u:Int)<Int.ofNat 10 by rw[bW];omega)];have fU:pJ b.1 t.2=(t.2.take u).flatMap (dA b.1.2.2.2.1)++(dA b.1.2.2.2.1 t.2[u]++(t.2.drop (u+1)).flatMap (dA b.1.2.2.2.1)):=by
   unfold pJ;conv=>lhs;rw[<-List.take_append_drop u t.2,List.drop_eq_getElem_cons sG]
   simp only[List.flatMap_append,List.flatMap_cons]
  generalize amI:t.2[u]=jV at *
  generalize (t.2.drop (u+1)).flatMap (dA b.1.2.2.2.1)=R at *
  generalize jr:(t.2.take u).flatMap (dA b.1.2.2.2.1)=P at *
  have amJ:(t.2.take (u+1)).flatMap (dA b.1.2.2.2.1)=P++dA b.1.2.2.2.1 jV:=by
   rw[List.take_add_one,List.getElem?_eq_getElem sG,Option.toList_some,List.flatMap_append,jr,amI];simp
  rw[A.gh];refine (A.BT (p:=λz=>match z with | .next z=>z=(fi,some b,t.2,(u:Int),(fi,S,P++dA b.1.2.2.2.1 jV,false),()) | .done z=>(match z with | .next _=>False | .done y=>y.1.2.2.2=true)) (λD=>∃ (i:Nat) (Q:List bB),i<=jV.length+1/\Q++dA b.1.2.2.2.1 (jV.drop i)=dA b.1.2.2.2.1 jV/\D=(fi,some b,jV,(i:Int),t.2,(u:Int),(fi,S,P++Q,false),())) (λD=>(20 - D.2.2.2.1).toNat) ?_ _ ⟨0,[],by omega,by simp,by simp⟩).mono λz bl=>?_
  ·rintro D ⟨i,Q,oB,uf,rfl⟩;have hw:=bA (n:=(i:Int)+1) (by omega) (by omega);have gX:=bA (n:=(i:Int)+2) (by omega) (by omega);by_cases G:i+1<jV.length
   ·have LV:i<jV.length:=by omega
    have aw:decide ((i:Int)+1<(jV.length:Int))=true:=by simpa using (by omega:(i:Int)+1<(jV.length:Int))
    have cw:(0:Int)<=(i:Int)+1/\(i:Int)+1<(jV.length:Int):=⟨by omega,by omega⟩
    have jw:jV.getD ((i:Int)+1).toNat ((0,0,0,0,0,0),0)=jV[i+1]:=by
     rw[show ((i:Int)+1).toNat=i+1 from by omega,sX G]
    have em:v_.sh (b.1,jV[i].2,jV[i+1].2)=A.pure (l8 b.1.2.2.2.1 jV[i].2 jV[i+1].2):=A.bS (a6 i G) _;simp only[Prod.da,Prod.ft,bW,cj,hw,aw,if_true,dh LV,cN LV,cw,jw,Option.isSome_some,Option.getD_some,em,A.iU,A.fC,and_self,A.bq,decide_true];rw[A.gh,A.kM];have cW:=amE (cl:=b.1.2.2.2.1) G;refine⟨⟨trivial,trivial,dA b.1.2.2.2.1 (jV.drop (i+2))++R,(Ha _).2 ?_⟩,⟨true,trivial⟩,λy _=>?_⟩
    ·rw[fU,<-uf,cW];simp
    ·cases y with
     | false=>
      simp only[Bool.not_false,if_true,A.aG];exact A.eb.2 rfl
     | true=>
      simp only[Bool.not_true,Bool.false_eq_true,if_false,gX];refine A.eb.2 ⟨⟨i+2,Q++[(jV[i].1,l8 b.1.2.2.2.1 jV[i].2 jV[i+1].2)],by omega,?_,?_⟩,?_⟩
      ·rw[<-uf,cW];simp
      ·rw[List.append_assoc];rfl
      ·show (20 - ((i:Int)+2)).toNat<(20 - (i:Int)).toNat;omega
   ·have aw:decide ((i:Int)+1<(jV.length:Int))=false:=by simpa using (by omega:(jV.length:Int)<=(i:Int)+1)
    simp only[bW,cj,hw,aw,Bool.false_eq_true,if_false,A.aG];refine A.eb.2 ?_;rw[amF G,List.append_nil]at uf;show (fi,some b,t.2,(u:Int),(fi,S,P++Q,false),())=_;rw[uf]
  ·cases z with
   | next z=>
    have bl:z=_:=bl;subst bl;simp only[A.bZ,cj,amH];refine A.eb.2 ⟨⟨u+1,by omega,?_⟩,?_⟩
    ·rw[amJ];rfl
    ·show (10 - ((u:Int)+1)).toNat<(10 - (u:Int)).toNat;omega
   | done z=>
    cases z with
    | next z=>exact absurd bl id
    | done y=>
     have bl:y.1.2.2.2=true:=bl;simp only[A.py];refine A.eb.2 λh=>?_;rw[bl]at h;cases h
 ·have Ns:u=10:=by omega
  subst Ns;simp only[show decide (((10:Nat):Int)<10)=false from by decide,Bool.false_eq_true,if_false,A.aG];refine A.eb.2 λ_=>(Ha _).2 ?_;show (t.2.take 10).flatMap _=_;rw[<-E,List.take_length];rfl
abbrev A2:aL:=⟨.az (.bI sQ) (.bI ya),.ct (.az hp bw),λ_=>True,λx=>s7 (some x.2,some x.1)⟩
theorem amK(x):A.le (akI s7 x) (A2.sh x):=A.br λ_=>rfl
end Go.Fer.H
namespace Go.Fer.H
open A (V)
theorem A3{ak β:Type}{f:ak->β}:∀ {l:List ak},(l.map f).Nodup->∀ {a b:ak},a∈l->b∈l->f a=f b->a=b
 | [],_,a,b,bb,_,_=>by grind
 | x::l,aB,a,b,bb,W,e=>by
  rw[List.map_cons,List.nodup_cons]at aB;rcases List.mem_cons.1 bb with E | E<;>rcases List.mem_cons.1 W with U | U
  ·grind
  ·grind
  ·grind
  ·exact A3 aB.2 E U e
theorem amL{l m:z1'}(h:l.Perm m):l.sum=m.sum:=by
 induction h with
 | nil=>rfl
 | cons x _ aK=>grind
 | swap x y l=>grind
 | trans _ _ E U=>omega
theorem ON{l:List bB}(h:eE l=true){i:Nat}(G:i<l.length):ep l[i].1=1+((i % 2:Nat):Int)/\(0<i->l[i].2≠(l.getD (i - 1) bH).2):=by
 unfold eE at h;rw[List.all_eq_true]at h;have:=h i (by grind);unfold qB at this;grind
theorem XU(cl:z4'):∀ l:List bB,(∀ i,(h:i<l.length)->ep l[i].1=1+((i % 2:Nat):Int))->dA cl l=((uz l).filter λp=>ep p.1.1 == 1).map λp=>(p.1.1,l8 cl p.1.2 p.2.2)
 | [],_=>rfl
 | [_],_=>rfl
 | [a,b],h=>by
  have bb:ep a.1=1:=h 0 (by simp);simp[dA,uz,bb]
 | a::b::c::r,h=>by
  have bb:ep a.1=1:=h 0 (by simp);have W:ep b.1=2:=h 1 (by simp);have aK:=XU cl (c::r) λi G=>by
   have:=h (i+2) (by grind);grind
  have e:uz (a::b::c::r)=(a,b)::(b,c)::uz (c::r):=rfl;rw[e,List.filter_cons_of_pos (by grind),List.filter_cons_of_neg (by grind),List.map_cons,<-aK];rfl
abbrev nn(c:a1)(w:z1'):List bB:=pJ c (nl c w)
theorem Il(c:a1)(w:z1'):nn c w=(ei 0 9).flatMap λu=>dA c.2.2.2.1 (b8 c w u):=by
 rfl
theorem OO{c:a1}{w:z1'}(hw:iR c w=true){u:Int}(hu:0<=u/\u<=9):g_ c w u=b8 c w u:=by
 unfold g_;rw[if_pos (Ia hw hu)]
theorem amM{cl:z4'}{l:List bB}(h:eE l=true)(jg:Int):Ej cl jg l=((dA cl l).find? λp=>p.1.1 == jg).map (·.2):=by
 rw[XU cl l λi G=>(ON h G).1];unfold Ej;rw[List.find?_map,List.find?_filter,Option.map_map];refine congrArg _ (congrArg (λf=>(uz l).find? f) ?_);grind
theorem XV{ak β:Type}{f g:ak->Option β}:∀ {l:List ak},(∀ x∈l,f x=g x)->l.findSome? f=l.findSome? g
 | [],_=>rfl
 | x::l,h=>by
  rw[List.findSome?_cons,List.findSome?_cons,h x (by simp),XV λy aR=>h y (by grind)]
theorem OP{c:a1}{w:z1'}(hw:iR c w=true)(jg:Int):jU c w jg=((nn c w).find? λp=>p.1.1 == jg).map (·.2):=by
 unfold jU;rw[Il,List.find?_flatMap,List.map_findSome?];refine XV λu hu=>?_;have hu:=sM.1 hu;rw[OO hw hu,amM (Ia hw hu)];rfl
theorem XW{c:a1}(aC:gZ c){w:z1'}(hw:iR c w=true):Es c (nl c w):=by
 have U:=El aC.Oy hw;have key:∀ u:Int,0<=u/\u<=9->(b8 c w u).length<=12/\∀ i,(h:i+1<(b8 c w u).length)->AU (c,(b8 c w u)[i].2,(b8 c w u)[i+1].2):=by
  intro u hu;have:=OO hw hu;refine⟨Eg aC w u,?_⟩;have k:=λi=>@XD c aC w U u i;simp only[this]at k;exact k
 refine⟨rfl,λl aj=>?_⟩;simp only[nl,List.mem_cons,List.not_mem_nil,or_false]at aj;rcases aj with rfl | rfl | rfl | rfl | rfl | rfl | rfl | rfl | rfl | rfl<;>exact key _ (by omega)
theorem XX{cl:z4'}:∀ {l:List bB} {p:bB},p∈dA cl l->∃ i,∃ h:i+1<l.length,i % 2=0/\p=(l[i].1,l8 cl l[i].2 l[i+1].2)
 | [],_,h=>by simp[dA]at h
 | [_],_,h=>by simp[dA]at h
 | a::b::r,p,h=>by
  unfold dA at h;rcases List.mem_cons.1 h with rfl | h
  ·exact⟨0,by simp,rfl,rfl⟩
  ·obtain⟨i,G,U,e⟩:=XX h;exact⟨i+2,by grind,by omega,e⟩
theorem XY(cl:z4'):∀ l:List bB,((dA cl l).map (·.1)).Sublist (l.map (·.1))
 | []=>.slnil
 | [_]=>List.nil_sublist _
 | a::b::r=>by
  unfold dA;simp only[List.map_cons];exact ((XY cl r).cons _).cons_cons _
theorem XZ(l:List ba):((gY l).map (·.1)).Nodup:=by
 unfold gY;have key:∀ L:z1',L.Nodup->((L.filterMap λid=>l.find? λs=>s.1 == id).map (·.1)).Nodup/\∀ k∈(L.filterMap λid=>l.find? λs=>s.1 == id).map (·.1),k∈L:=by
  grind
 refine (key _ ?_).1;unfold ei;show List.Pairwise _ _;rw[List.pairwise_map];exact (List.pairwise_lt_range).imp λh=>by omega
theorem OQ(c:a1):((fv c).map (·.1)).Nodup:=by
 unfold fv;exact (XZ c.2.1).sublist (List.filter_sublist.map _)
theorem OR{c:a1}{a b:ba}(bb:a∈fv c)(W:b∈fv c)(h:a.1=b.1):a=b:=by
 exact A3 (OQ c) bb W h
theorem OS(c:a1)(w:z1')(u:Int):((b8 c w u).map (·.1)).Perm ((fv c).filter λs=>decide (uu s=u)):=by
 unfold b8 oW;refine ((Eb hZ _).map _).trans ?_;rw[List.map_map];exact List.Perm.of_eq (List.map_id' _)
theorem X0{c:a1}{w:z1'}{p:bB}(h:p∈nn c w):∃ u,0<=u/\u<=9/\∃ i,∃ G:i+1<(b8 c w u).length,i % 2=0/\p=((b8 c w u)[i].1,l8 c.2.2.2.1 (b8 c w u)[i].2 (b8 c w u)[i+1].2):=by
 rw[Il,List.mem_flatMap]at h;obtain⟨u,hu,ao⟩:=h;obtain⟨i,G,U,e⟩:=XX ao;exact⟨u,(sM.1 hu).1,(sM.1 hu).2,i,G,U,e⟩
theorem A4{c:a1}{w:z1'}{p:bB}(h:p∈nn c w):p.1∈fv c:=by
 obtain⟨u,_,_,i,G,_,rfl⟩:=X0 h;exact (Eh (List.getElem_mem (by omega:i<(b8 c w u).length))).1
theorem amN{c:a1}{w:z1'}(hw:iR c w=true){p:bB}(h:p∈nn c w):ep p.1=1:=by
 obtain⟨u,E,U,i,G,ag,rfl⟩:=X0 h;have:=(ON (Ia hw ⟨E,U⟩) (by omega:i<(b8 c w u).length)).1;grind
theorem OT(c:a1)(w:z1'):((nn c w).map (·.1)).Nodup:=by
 have hc:(fv c).Nodup:=by
  have:=OQ c;exact List.Pairwise.of_map _ (λa b h e=>h (by rw[e])) this
 have hu:∀ u,((dA c.2.2.2.1 (b8 c w u)).map (·.1)).Nodup/\∀ s∈(dA c.2.2.2.1 (b8 c w u)).map (·.1),uu s=u:=by
  intro u;have aE:=XY c.2.2.2.1 (b8 c w u);have ao:=OS c w u;grind
 rw[Il,List.map_flatMap];have key:∀ L:z1',L.Nodup->(L.flatMap λu=>(dA c.2.2.2.1 (b8 c w u)).map (·.1)).Nodup/\∀ s∈(L.flatMap λu=>(dA c.2.2.2.1 (b8 c w u)).map (·.1)),uu s∈L:=by
  grind
 refine (key _ ?_).1;unfold ei;show List.Pairwise _ _;rw[List.pairwise_map];exact (List.pairwise_lt_range).imp λh=>by omega
theorem X1{ak:Type}(yk:ak->Int):∀ (l:List ak) (n:Int),l.foldl (λn x=>n+yk x) n=n+(l.map yk).sum
 | [],n=>by simp
 | x::l,n=>by simp only[List.foldl_cons,List.map_cons,List.sum_cons];rw[X1 yk l];omega
theorem amO{ak:Type}{f g:ak->Int}{l:List ak}(h:∀ x∈l,f x=g x):(l.map f).sum=(l.map g).sum:=by rw[List.map_congr_left h]
theorem amP{ψ:bB->Int}:∀ (C:List ba) (H:List bB),(C.map (·.1)).Nodup->(H.map (·.1)).Nodup->(∀ p∈H,p.1∈C)->(C.map λs=>(((H.find? λp=>p.1.1 == s.1).map ψ).getD 0)).sum=(H.map ψ).sum:=by
 intro C H jo mU q8;have e:(H.map ψ).sum=((C.filterMap λs=>H.find? λp=>p.1.1 == s.1).map ψ).sum:=by
  refine amL (List.Perm.map ψ ?_);have amQ:H.Nodup:=List.Pairwise.of_map _ (λa b h e=>h (by rw[e])) mU;refine (List.perm_ext_iff_of_nodup amQ ?_).2 λp=>?_
  ·have:∀ C:List ba,(C.map (·.1)).Nodup->(C.filterMap λs=>H.find? λp=>p.1.1 == s.1).Nodup/\∀ q∈(C.filterMap λs=>H.find? λp=>p.1.1 == s.1),q.1.1∈C.map (·.1):=by
    grind
   grind
  ·rw[List.mem_filterMap];constructor
   ·intro ao;refine⟨p.1,q8 p ao,?_⟩;have hex:(H.find? λq=>q.1.1 == p.1.1).isSome=true:=List.find?_isSome.2 ⟨p,ao,by simp⟩;obtain⟨q,bt⟩:=Option.isSome_iff_exists.1 hex;have Et:q.1.1=p.1.1:=by grind
    have we:=List.mem_of_find?_eq_some bt;have amR:q.1=p.1:=A3 jo (q8 q we) (q8 p ao) Et;have:q=p:=A3 mU we ao amR;grind
   grind
 rw[e];have:∀ C:List ba,(C.map λs=>(((H.find? λp=>p.1.1 == s.1).map ψ).getD 0)).sum=((C.filterMap λs=>H.find? λp=>p.1.1 == s.1).map ψ).sum:=by
  intro C;induction C with
  | nil=>rfl
  | cons s C aK=>
   grind
 grind
def uF(c:a1)(g:Int)(p:bB):Int:=if iP p.1=g then lD c.2.2.2.2 p.2 else 0
theorem amS{c:a1}{w:z1'}(hw:iR c w=true)(g:Int):H_ c w g=((nn c w).map (uF c g)).sum:=by
 rw[<-amP (ψ:=uF c g) (fv c) (nn c w) (OQ c) (OT c w) λp ao=>A4 ao];unfold H_;have e:(λ(n:Int) (s:ba)=>if (ep s=1/\iP s=g)/\(jU c w (lB s)).isSome=true then n+lD c.2.2.2.2 ((jU c w (lB s)).getD 0) else n)=λn s=>n+(if (ep s=1/\iP s=g)/\(jU c w (lB s)).isSome=true then lD c.2.2.2.2 ((jU c w (lB s)).getD 0) else 0):=by
  grind
 rw[e,X1,Int.zero_add];refine amO λs aE=>?_;rw[OP hw];cases aq:(nn c w).find? λp=>p.1.1 == lB s with
 | none=>simp
 | some p=>
  have ao:=List.mem_of_find?_eq_some aq;have E:p.1.1=s.1:=by grind
  have U:p.1=s:=OR (A4 ao) aE E;have ag:=amN hw ao;rw[U]at ag;simp only[Option.map_some,Option.getD_some,Option.isSome_some,and_true,ag,true_and,uF,U]
theorem A5(c:a1)(b:Bool):((dN c b).2≠0/\(dN c b).1=[]/\s6 c b=(none,(dN c b).2))\/(dN c b=(cQ c,0)/\cx c=0/\b=true/\s6 c b=(some (uE c),0)):=by
 unfold dN s6;by_cases hc:cx c=0
 ·cases b with
  | false=>left;simp[hc]
  | true=>
   by_cases aI:cQ c=[]
   ·left;simp[hc,aI]
   ·right;simp[hc,aI]
 ·left;simp[hc]
theorem OU{ak β:Type}{f g:ak->Option β}:∀ {l:List ak},(∀ x∈l,f x=g x)->l.filterMap f=l.filterMap g
 | [],_=>rfl
 | x::l,h=>by
  rw[List.filterMap_cons,List.filterMap_cons,h x (by simp),OU λy aR=>h y (by simp[aR])]
theorem X2:uA []=(0,0):=rfl
theorem amT{ak:Type}(L:List ak)(P:ak->Option dR)(f:Option dR->A (Int×Bool))(v:ak->Int×Bool)(h:∀ w∈L,f (P w)=A.pure (v w)):wc (L.map P) f=yi (L.filterMap λw=>if (v w).2=true then some (v w).1 else none):=by
 unfold wc;rw[List.filterMap_map];refine congrArg yi (OU λw hw=>?_);simp only[Function.comp,h w hw,A.fC]
theorem X3{ak:Type}(yk:ak->Int)(L:List ak):(L.filterMap λw=>if ((yk w,true):Int×Bool).2=true then some ((yk w,true):Int×Bool).1 else none)=L.map yk:=by
 simp only[if_true];rw[<-List.filterMap_eq_map']
theorem OV{c:a1}(aj:(cQ c).length<=60){f:Option dR->A (Int×Bool)}{v:z1'->Int×Bool}(h:∀ w∈cQ c,f (iu c w)=A.pure (v w)):A1.sh (some (uE c),f)=A.pure ((yi ((cQ c).filterMap λw=>if (v w).2=true then some (v w).1 else none)).getD (0,0),(yi ((cQ c).filterMap λw=>if (v w).2=true then some (v w).1 else none)).isSome):=by
 refine (A.bS ⟨uE c,rfl,show ((cQ c).map (iu c)).length<=60 by simpa using aj,λt aI=>?_⟩ _).trans (congrArg A.pure ?_)
 ·show ((wc ((cQ c).map (iu c)) f).getD (0,0),(wc ((cQ c).map (iu c)) f).isSome)=_;rw[amT _ _ f v h]
 ·obtain⟨w,hw,rfl⟩:=List.mem_map.1 aI;exact⟨_,h w hw⟩
theorem amU:∀ {l:z1'},(yi l).isSome=!l.isEmpty:=by
 intro l;have key:∀ (l:z1') (o:Option (Int×Int)),o.isSome=true->(l.foldl (λo n=>some (Ib o n)) o).isSome=true:=by
  intro l;induction l with
  | nil=>intro o h;exact h
  | cons n l aK=>intro o _;exact aK _ rfl
 cases l with
 | nil=>rfl
 | cons n l=>exact key l _ rfl
theorem Eu{c:a1}{f:Option ea->A Bool}{b:Bool}(h:gJ c)(aq:cx c=0->f (some (c,fv c,[]))=A.pure b):wb.sh (c,f)=A.pure (s6 c b):=by
 refine (A.bS ⟨h,λhc=>⟨b,aq hc⟩⟩ _).trans (congrArg A.pure ?_);show s6 c (Ep c f)=s6 c b;unfold s6 Ep;by_cases hc:cx c=0
 ·rw[aq hc,A.fC]
 ·simp[hc]
theorem Ev{c:a1}(h:gJ c)(hc:cx c=0):(cQ c).length<=60:=Nat.le_trans (OE c _ _) (h.2 hc)
theorem wg{c:a1}{w:z1'}(h:w∈cQ c):iR c w=true:=OF c _ _ _ h
abbrev A6:aL:=⟨.az hp (.bI bw),de,λx=>∃ k:Int,x.2=some k/\True,λx=>decide (lB x.1=x.2.getD 0)&&decide (ep x.1=1)⟩
theorem amV(x):A.le (akS x) (A6.sh x):=A.br λ_=>rfl
abbrev OW:aL:=⟨.az (.bI sQ) (.bI bw),de,λx=>∃ (b:ea) (k:Int),x.2=some k/\x.1=some b/\b.2.1.length<2 ^ 63,λx=>(x.1.getD (uD,[],[])).2.1.any λs=>lB s == x.2.getD 0&&ep s == 1⟩
theorem amW(x):A.le (WJ (je hp).sh A6.sh x) (OW.sh x):=A.br λh=>by
 obtain⟨o,k⟩:=x;obtain⟨b,_,_,W,h⟩:=h;change o=some b at W;subst W;unfold WJ;simp only[Option.isSome_some,A.bq,Option.getD_some];have ae:∀ s,A6.sh (s,some (k.getD 0))=A.pure (decide (lB s=k.getD 0)&&decide (ep s=1)):=λs=>A.bS ⟨_,rfl,trivial⟩ _;rw[show (je hp).sh (b.2.1,λs=>A6.sh (s,some (k.getD 0)))=A.pure (b.2.1.any λs=>(A6.sh (s,some (k.getD 0))).val false) from A.bS ⟨h,λs _=>⟨_,ae s⟩⟩ _,A.aG];refine congrArg A.pure ?_;show _=b.2.1.any λs=>lB s == k.getD 0&&ep s == 1;refine congrArg (λp=>b.2.1.any p) ?_;funext s;rw[ae,A.fC];rw[Bool.eq_iff_iff];simp
theorem X4{f:Int->A Int}{n:Int}:∀ (L:List bB),(∀ p∈L,p.1.1=n->∃ v,f p.2=A.pure v)->
  jM (λ(D:Int×(Int->A Int)×Int×Bool×Unit) (y:ba×Int)=>A.bind (if decide (y.1.1=D.1)=true then A.bind (D.2.1 y.2) λy=>A.pure (dj.ret,y,true,()) else A.pure
 (dj.normal,D.2.2.1,D.2.2.2.1,())) λp=>A.pure (p.1,D.1,D.2.1,p.2.1,p.2.2.1,())) L (n,f,0,false,())=(L.find? λp=>p.1.1 == n).elim (A.pure (dj.normal,n,f,0,false,())) λp=>A.pure (dj.ret,n,f,(f p.2).val 0,true,())
 | [],_=>rfl
 | p::L,h=>by
  unfold jM;by_cases ao:p.1.1=n
  ·obtain⟨v,ae⟩:=h p (by simp) ao;simp[ao,ae]
  ·have aK:=X4 L λq bt=>h q (by simp[bt]);simp only[ao,decide_false,Bool.false_eq_true,if_false,A.aG];rw[aK,List.find?_cons_of_neg (by simpa using ao)]
abbrev OX:aL:=⟨.az (.bI ya) (.az (.bI (.bI sQ)) (.az (.bI bw) (.bI (.fn bw bw)))),.az bw .bool,λx=>∃ (t:dR) (b:ea) (n:Int) (f:Int->A Int),x=(some t,some (some b),some n,some f)/\Es b.1 t.2/\∀ p∈pJ b.1 t.2,p.1.1=n->∃ v,f p.2=A.pure v,λx=>((pJ ((x.2.1.getD none).getD (uD,[],[])).1 (x.1.getD ([],[])).2).find? λp=>p.1.1 == x.2.2.1.getD 0).elim (0,false) λp=>(((x.2.2.2.getD λ_=>A.fail) p.2).val 0,true)⟩
theorem amX(x):A.le (WK A2.sh x) (OX.sh x):=A.sK λh=>by
 obtain⟨t,b,n,f,rfl,E,U⟩:=h;unfold WK;simp only[Option.getD_some];rw[show A2.sh (some b,some t)=A.pure (s7 (some (some t),some (some b))) from rfl,A.aG,A.gh];refine⟨⟨_,t,b,rfl,rfl,E,rfl⟩,λL iL=>?_⟩;obtain⟨cY,bf,ax,aO,_,rfl⟩:=iL;cases ax;cases aO;rw[X4 (f:=f) (n:=n) _ U];show A.cy _ λy=>y=((pJ b.1 t.2).find? λp=>p.1.1 == n).elim (0,false) λp=>((f p.2).val 0,true)
 cases (pJ b.1 t.2).find? λp=>p.1.1 == n with
 | none=>simp only[Option.elim,A.aG,sv];exact A.eb.2 rfl
 | some p=>simp only[Option.elim,A.aG,sv];exact A.eb.2 rfl
abbrev A7:aL:=⟨.az iO (.az bw (.fn bw bw)),.az mG bw,λx=>gJ x.1/\∀ w∈cQ x.1,∀ m,cx x.1=0->jU x.1 w x.2.1=some m->∃ v,x.2.2 m=A.pure v,λx=>(uA ((lE x.1 x.2.1).1.map λm=>(x.2.2 m).val 0),(lE x.1 x.2.1).2)⟩
theorem amY(x):A.le (Wr wb.sh A1.sh OW.sh OX.sh x) (A7.sh x):=A.br λh=>by
 obtain⟨c,n,f⟩:=x;obtain⟨h,aq⟩:=h;change gJ c at h;change ∀ w∈cQ c,∀ m,cx c=0->jU c w n=some m->∃ v,f m=A.pure v at aq;unfold Wr;show _=A.pure (uA ((lE c n).1.map λm=>(f m).val 0),(lE c n).2);unfold lE;rw[Eu (b:=AX c n) h λhc=>A.bS ⟨(c,fv c,[]),n,rfl,rfl,by have:=(oX hc).OA;show (fv c).length<2 ^ 63;omega⟩ _];rcases A5 c (AX c n) with⟨E,U,ag⟩ | ⟨E,U,ag,a6⟩
 ·rw[ag];simp only[A.aG];rw[if_pos (by simpa using E),if_pos E];rfl
 ·rw[E,a6];simp only[A.aG];rw[if_neg (by simp)];have aC:=oX U;rw[OV (v:=λw=>(jU c w n).elim (0,false) λm=>((f m).val 0,true)) (Ev h U) λw hw=>?_,A.aG]
  ·have e:((cQ c).filterMap λw=>if ((jU c w n).elim ((0,false):Int×Bool) λm=>((f m).val 0,true)).2=true then some ((jU c w n).elim ((0,false):Int×Bool) λm=>((f m).val 0,true)).1 else none)=((cQ c).filterMap λw=>jU c w n).map λm=>(f m).val 0:=by
    rw[List.map_filterMap];refine OU λw _=>?_;cases jU c w n<;>rfl
   rw[e,amU];generalize (cQ c).filterMap (λw=>jU c w n)=l;cases l with
   | nil=>rfl
   | cons m l=>simp;rfl
  ·have aI:=wg hw;have vo:=OP aI n;refine (A.bS ⟨(w,nl c w),uE c,n,f,rfl,XW aC aI,λp ao X5=>?_⟩ _).trans (congrArg A.pure ?_)
   ·show ((nn c w).find? λp=>p.1.1 == n).elim (0,false) (λp=>((f p.2).val 0,true))=_;rw[vo];cases (nn c w).find? λp=>p.1.1 == n<;>rfl
   ·refine aq w hw p.2 U ?_;rw[vo];have hex:((nn c w).find? λq=>q.1.1 == n).isSome=true:=List.find?_isSome.2 ⟨p,ao,by simpa using X5⟩;obtain⟨q,bt⟩:=Option.isSome_iff_exists.1 hex;have Et:q.1.1=n:=by have:=List.find?_some bt;simpa using this
    have we:=List.mem_of_find?_eq_some bt;have aE:q.1=p.1:=OR (A4 we) (A4 ao) (Et.trans X5.symm);have:q=p:=A3 (OT c w) we ao aE;rw[bt,this];rfl
abbrev yl:aL:=⟨bw,bw,λ_=>True,λx=>x⟩
theorem amZ(x):A.le (akH x) (yl.sh x):=A.br λ_=>rfl
theorem am0(x):A.le (Wf A7.sh yl.sh x) (Ie.sh x):=A.br λh=>by
 obtain⟨c,n⟩:=x;change gJ c at h;unfold Wf;rw[show A7.sh (c,n,yl.sh)=A.pure (uA ((lE c n).1.map λm=>(yl.sh m).val 0),(lE c n).2) from A.bS ⟨h,λ_ _ m _ _=>⟨m,rfl⟩⟩ _];simp only[A.aG];show _=A.pure (Ic c n);unfold Ic;have:((lE c n).1.map λm=>(yl.sh m).val 0)=(lE c n).1:=by
  have:(λm:Int=>(yl.sh m).val 0)=λm=>m:=by
   funext m;exact A.fC
  rw[this,List.map_id']
 rw[this]
abbrev ym:aL:=⟨.az bw (.bI iO),bw,λx=>∃ c:a1,x.2=some c/\yh (c.2.2.2.2,x.1),λx=>lD (x.2.getD uD).2.2.2.2 x.1⟩
theorem am1(x):A.le (Ws v'.sh x) (ym.sh x):=A.br λh=>by
 obtain⟨m,q⟩:=x;obtain⟨c,hc,h⟩:=h;change q=some c at hc;subst hc;unfold Ws;simp only[Option.getD_some];rw[show v'.sh (c.2.2.2.2,m)=A.pure (lD c.2.2.2.2 m) from A.bS h _,A.aG]
theorem X6{c:a1}(aC:gZ c){w:z1'}(hw:iR c w=true){n m:Int}(hm:jU c w n=some m):ym.sh (m,some c)=A.pure (lD c.2.2.2.2 m):=by
 have:=XH aC (El aC.Oy hw) hm;exact A.bS ⟨c,rfl,aC.Oz,show -100000<=m by omega,show m<=20000 by omega⟩ _
theorem am2{c:a1}{n m:Int}(hm:m∈(lE c n).1):cx c=0/\∃ w,iR c w=true/\w∈cQ c/\jU c w n=some m:=by
 unfold lE at hm;split at hm
 ·simp at hm
 ·split at hm
  ·simp at hm
  ·rw[List.mem_filterMap]at hm;obtain⟨w,hw,he⟩:=hm;obtain⟨E,U,ag,_⟩:=amh hw;exact⟨E,w,ag,U,he⟩
theorem am3(x):A.le (We A7.sh ym.sh x) (AZ.sh x):=A.br λh=>by
 obtain⟨c,n⟩:=x;change gJ c at h;unfold We;rw[show A7.sh (c,n,λm=>ym.sh (m,some c))=A.pure (uA ((lE c n).1.map λm=>(ym.sh (m,some c)).val 0),(lE c n).2) from A.bS ⟨h,λw hw m hc hm=>⟨_,X6 (oX hc) (wg hw) hm⟩⟩ _];simp only[A.aG];show _=A.pure (AY c n);unfold AY;have:((lE c n).1.map λm=>(ym.sh (m,some c)).val 0)=(lE c n).1.map λm=>lD c.2.2.2.2 m:=by
  refine List.map_congr_left λm hm=>?_;obtain⟨hc,w,hw,_,he⟩:=am2 hm;rw[X6 (oX hc) hw he,A.fC]
 rw[this]
abbrev OY:aL:=⟨.az (.bI sQ) (.bI bw),de,λx=>∃ k:Int,x.2=some k/\True,λx=>b4 (x.2.getD 0) 0 99⟩
theorem am4(x):A.le (Wx vT.sh x) (OY.sh x):=A.br λ_=>by
 unfold Wx;rw[show vT.sh (x.2.getD 0)=A.pure (b4 (x.2.getD 0) 0 99) from rfl,A.aG]
abbrev OZ:aL:=⟨.az (.bI ya) (.az (.bI (.bI sQ)) (.az (.bI bw) (.bI iO))),.az bw .bool,λx=>∃ (t:dR) (b:ea) (n:Int) (c:a1),x=(some t,some (some b),some n,some c)/\Es b.1 t.2/\(pJ b.1 t.2).length<=1000/\∀ p∈pJ b.1 t.2,yh (c.2.2.2.2,p.2),λx=>(((pJ ((x.2.1.getD none).getD (uD,[],[])).1 (x.1.getD ([],[])).2).map (uF (x.2.2.2.getD uD) (x.2.2.1.getD 0))).sum,true)⟩
theorem O0{c:a1}{n:Int}:∀ (L:List bB) (a:Int),(∀ p∈L,yh (c.2.2.2.2,p.2))->0<=a->a+100000*(L.length:Int)<=1000000000->
  jM (λ(D:Int×a1×Int×Unit) (y:ba×Int)=>A.bind (if decide (y.1.2.2.2.2.2=D.1)=true then A.ab (v'.sh (D.2.1.2.2.2.2,y.2)).cm (A.pure (dj.normal,IntKind.wrap
 .i64 (Add.add D.2.2.1 (A.val (v'.sh (D.2.1.2.2.2.2,y.2)) 0)),())) else A.pure (dj.normal,D.2.2.1,())) λp=>A.pure (p.1,D.1,D.2.1,p.2.1,())) L (n,c,a,())=A.pure (dj.normal,n,c,a+(L.map (uF c n)).sum,())
 | [],a,_,_,_=>by simp[jM]
 | p::L,a,h,aY,E=>by
  unfold jM;simp only[List.length_cons]at E;by_cases ao:p.1.2.2.2.2.2=n
  ·have W:=al6 (h p (by simp));have ae:v'.sh (c.2.2.2.2,p.2)=A.pure (lD c.2.2.2.2 p.2):=A.bS (h p (by simp)) _;have hw:=bA (n:=a+lD c.2.2.2.2 p.2) (by omega) (by omega);have aK:=O0 (c:=c) (n:=n) L (a+lD c.2.2.2.2 p.2) (λq bt=>h q (by simp[bt])) (by omega) (by omega);simp only[ao,decide_true,if_true,ae,A.iU,A.fC,A.bq,cj,hw,A.aG];simp only[cj]at aK;rw[aK,List.map_cons,List.sum_cons];rw[show uF c n p=lD c.2.2.2.2 p.2 from if_pos ao];rw[Int.add_assoc]
  ·have aK:=O0 (c:=c) (n:=n) L a (λq bt=>h q (by simp[bt])) aY (by omega);simp only[ao,decide_false,Bool.false_eq_true,if_false,A.aG];rw[aK,List.map_cons,List.sum_cons];rw[show uF c n p=0 from if_neg ao,Int.zero_add]
theorem am5(x):A.le (Wz v'.sh A2.sh x) (OZ.sh x):=A.sK λh=>by
 obtain⟨t,b,n,c,rfl,E,U,ag⟩:=h;unfold Wz;simp only[Option.getD_some];rw[show A2.sh (some b,some t)=A.pure (s7 (some (some t),some (some b))) from rfl,A.aG,A.gh];refine⟨⟨_,t,b,rfl,rfl,E,rfl⟩,λL iL=>?_⟩;obtain⟨cY,bf,ax,aO,_,rfl⟩:=iL;cases ax;cases aO;rw[O0 _ 0 ag (by omega) (by omega)];show A.cy _ λy=>y=(((pJ b.1 t.2).map (uF c n)).sum,true)
 simp only[A.aG,sv,Int.zero_add];exact A.eb.2 rfl
theorem X7(cl:z4'):∀ l:List bB,(dA cl l).length<=l.length
 | []=>by simp[dA]
 | [_]=>by simp[dA]
 | a::b::r=>by unfold dA;simp only[List.length_cons];have:=X7 cl r;omega
theorem am6{c:a1}(aC:gZ c)(w:z1'):(nn c w).length<=1000:=by
 rw[Il];have:=OD (λu=>dA c.2.2.2.1 (b8 c w u)) 12 (ei 0 9) λu _=>Nat.le_trans (X7 _ _) (Eg aC w u);rw[show (ei 0 9).length=10 from by decide]at this;omega
theorem am7{c:a1}(aC:gZ c){w:z1'}(hw:iR c w=true){p:bB}(ao:p∈nn c w):yh (c.2.2.2.2,p.2):=by
 have hex:((nn c w).find? λq=>q.1.1 == p.1.1).isSome=true:=List.find?_isSome.2 ⟨p,ao,by simp⟩;obtain⟨q,bt⟩:=Option.isSome_iff_exists.1 hex;have Et:q.1.1=p.1.1:=by have:=List.find?_some bt;simpa using this
 have we:=List.mem_of_find?_eq_some bt;have:q=p:=A3 (OT c w) we ao (OR (A4 we) (A4 ao) Et);have ae:jU c w p.1.1=some p.2:=by rw[OP hw,bt,this];rfl
 have:=XH aC (El aC.Oy hw) ae;exact⟨aC.Oz,show -100000<=p.2 by omega,show p.2<=20000 by omega⟩
theorem am8(x):A.le (Wh wb.sh A1.sh OY.sh OZ.sh x) (Ig.sh x):=A.br λh=>by
 obtain⟨c,g⟩:=x;change gJ c at h;unfold Wh;show _=A.pure (If c g);unfold If;rw[Eu (b:=b4 g 0 99) h λhc=>A.bS ⟨g,rfl,trivial⟩ _];rcases A5 c (b4 g 0 99) with⟨E,U,ag⟩ | ⟨E,U,ag,a6⟩
 ·rw[U,ag];simp only[A.aG,List.map_nil,X2];rw[if_pos (by simpa using E)]
 ·rw[E,a6];simp only[A.aG];rw[if_neg (by simp)];have aC:=oX U;rw[OV (v:=λw=>(H_ c w g,true)) (Ev h U) λw hw=>?_,A.aG,X3]
  ·rfl
  ·have aI:=wg hw;refine (A.bS ⟨(w,nl c w),uE c,g,c,rfl,XW aC aI,am6 aC w,λp ao=>am7 aC aI ao⟩ _).trans (congrArg A.pure ?_);show (((nn c w).map (uF c g)).sum,true)=_;rw[amS aI]
def mI(t:Int):List bB->bB×Bool->bB×Bool
 | [],b=>b
 | e::l,b=>mI t l (if e.2<=t then (e,decide (ep e.1=1)) else b)
def ha(l:List bB)(t:Int):bB×Bool:=mI t l (bH,false)
theorem X8{t:Int}{e:bB}{l:List bB}{b:bB×Bool}(h:e.2<=t):mI t (e::l) b=mI t l (e,decide (ep e.1=1)):=by rw[mI,if_pos h]
theorem X9{t:Int}{e:bB}{l:List bB}{b:bB×Bool}(h:¬e.2<=t):mI t (e::l) b=mI t l b:=by rw[mI,if_neg h]
theorem X_(t:Int):∀ (l:List bB) (b:bB×Bool),l.foldl (λb e=>if e.2<=t then (e,decide (ep e.1=1)) else b) b=mI t l b
 | [],_=>rfl
 | e::l,b=>X_ t l _
theorem am9(l:List bB)(t:Int)(h:∀ e∈l,ep e.1=1\/ep e.1=2):nj l t=(if (ha l t).2=true then iP (ha l t).1.1 else -1,(ha l t).1.2):=by
 have key:∀ (l:List bB) (b:bB×Bool),(∀ e∈l,ep e.1=1\/ep e.1=2)->l.foldl (λb e=>if e.2<=t then (if ep e.1=2 then (-1,e.2) else (iP e.1,e.2)) else b) (if b.2=true then iP b.1.1 else -1,b.1.2)=(if (mI t l b).2=true then iP (mI t l b).1.1 else -1,(mI t l b).1.2):=by
  intro l;induction l with
  | nil=>intro b _;rfl
  | cons e l aK=>
   intro b h;rw[List.foldl_cons];by_cases he:e.2<=t
   ·rw[X8 he,<-aK (e,decide (ep e.1=1)) λx ah=>h x (by grind),if_pos he];grind
   ·rw[X9 he,if_neg he];grind
 exact key l (bH,false) h
theorem X'(l:List bB)(t:Int):ha l t=(bH,false)\/((ha l t).1∈l/\(ha l t).1.2<=t/\(ha l t).2=decide (ep (ha l t).1.1=1)):=by
 have key:∀ (l:List bB) (b:bB×Bool),mI t l b=b\/((mI t l b).1∈l/\(mI t l b).1.2<=t/\(mI t l b).2=decide (ep (mI t l b).1.1=1)):=by
  intro l;induction l with
  | nil=>intro b;exact .inl rfl
  | cons e l aK=>
   intro b;by_cases he:e.2<=t
   ·rw[X8 he];grind
   ·rw[X9 he];grind
 exact key l (bH,false)
abbrev O1(t:dR):Prop:=t.2.length=10/\∀ l∈t.2,l.length<=12
abbrev yn:aL:=⟨.az (.bI ya) (.az bw bw),.az HT .bool,λx=>∃ t:dR,x.1=some t/\O1 t/\0<=x.2.1/\x.2.1<=9,λx=>ha ((x.1.getD ([],[])).2.getD x.2.1.toNat []) x.2.2⟩
theorem am_(x):A.le (Wp x) (yn.sh x):=A.br λh=>by
 obtain⟨o,u,m⟩:=x;obtain⟨t,E,⟨U,ag⟩,a6,bM⟩:=h;change o=some t at E;change 0<=u at a6;change u<=9 at bM;subst E;unfold Wp;show _=A.pure (ha (t.2.getD u.toNat []) m);simp only[Option.isSome_some,A.bq,Option.getD_some];rw[A.bu (show (0:Int)<=u/\u<Int.ofNat 10 by grind)];have hm:t.2.getD u.toNat []∈t.2:=x5 a6 (by omega);have aj:=ag _ hm;generalize t.2.getD u.toNat []=l at *
 rw[A.du l (λi (b:bB×Bool)=>(m,b.2,l,(l.length:Int),(i:Int),bH,b.1,())) (λe b=>.next (if e.2<=m then (e,decide (ep e.1=1)) else b)) (λb=>.next (b.2,bH,b.1,())) (bH,false) ?_ ?_ ?_]
 ·rw[dQ,A.aG,X_];rfl
 ·rfl
 ·intro i G b;have hw:=bA (n:=(i:Int)+1) (by omega) (by omega);simp only[Prod.da,Prod.ft,bW,cV G,if_true,dh G,cN G,A.bq,cj,hw,V.hn,decide_eq_true_eq];by_cases he:l[i].2<=m
  ·simp_all
  ·simp only[he,if_false,A.aG,A.bZ,hw];rfl
 simp
theorem Ya(c:a1)(w:z1'){u:Int}(aY:0<=u)(h:u<=9):(nl c w).getD u.toNat []=b8 c w u:=by
 have hu:u=0\/u=1\/u=2\/u=3\/u=4\/u=5\/u=6\/u=7\/u=8\/u=9:=by omega
 rcases hu with rfl | rfl | rfl | rfl | rfl | rfl | rfl | rfl | rfl | rfl<;>rfl
theorem Yb{c:a1}(aC:gZ c)(w:z1'):O1 (w,nl c w):=by
 refine⟨rfl,λl aj=>?_⟩;simp only[nl,List.mem_cons,List.not_mem_nil,or_false]at aj;rcases aj with rfl | rfl | rfl | rfl | rfl | rfl | rfl | rfl | rfl | rfl<;>exact Eg aC w _
theorem Yc{c:a1}(aC:gZ c)(w:z1'){u t:Int}(aY:0<=u)(h:u<=9):yn.sh (iu c w,u,t)=A.pure (ha (b8 c w u) t):=by
 refine (A.bS ⟨_,rfl,Yb aC w,aY,h⟩ _).trans (congrArg A.pure ?_);show ha ((nl c w).getD u.toNat []) t=_;rw[Ya c w aY h]
theorem am'{c:a1}(aC:gZ c){w:z1'}{u:Int}{e:bB}(he:e∈b8 c w u):ep e.1=1\/ep e.1=2/\iP e.1=0:=(AS.1 (aC.AT (Eh he).1)).2.2.2.2.2
theorem O2{c:a1}(aC:gZ c){w:z1'}{u:Int}{e:bB}(he:e∈b8 c w u):0<=iP e.1/\iP e.1<=99:=(AS.1 (aC.AT (Eh he).1)).2.2.2.2.1
theorem Im{c:a1}(aC:gZ c){w:z1'}(hw:iR c w=true){u:Int}(hu:0<=u/\u<=9)(t:Int):nj (g_ c w u) t=(if (ha (b8 c w u) t).2=true then iP (ha (b8 c w u) t).1.1 else -1,(ha (b8 c w u) t).1.2)/\(decide ((nj (g_ c w u) t).1>=0)=(ha (b8 c w u) t).2):=by
 have e:=am9 (b8 c w u) t λe he=>(am' aC he).imp id And.left;rw[OO hw hu];refine⟨e,?_⟩;rw[e];cases W:(ha (b8 c w u) t).2 with
 | false=>simp
 | true=>
  simp only[if_true,decide_eq_true_eq];rcases X' (b8 c w u) t with h | ⟨h,_⟩
  ·grind
  ·exact (O2 aC h).1
abbrev A8:aL:=⟨.az (.bI sQ) (.bI bw),de,λx=>∃ k:Int,x.2=some k/\True,λx=>b4 (x.2.getD 0) 0 9999⟩
theorem Yd(x):A.le (Wu yd.sh x) (A8.sh x):=A.br λ_=>by
 unfold Wu;rw[show yd.sh (x.2.getD 0)=A.pure (b4 (x.2.getD 0) 0 9999) from rfl,A.aG]
theorem ana(x):A.le (akP yd.sh x) (A8.sh x):=Yd x
def Ew(t:dR)(m p:Int):Int:=(ei 0 9).foldl (λn u=>if (ha (t.2.getD u.toNat []) m).2=true then n+p else n) 0
abbrev O3:aL:=⟨.az (.bI ya) (.az (.bI bw) (.bI iO)),.az bw .bool,λx=>∃ (t:dR) (m:Int) (c:a1),x=(some t,some m,some c)/\O1 t/\0<=c.2.2.2.2.2.2.2.2.2.2/\c.2.2.2.2.2.2.2.2.2.2<=100000,λx=>(Ew (x.1.getD ([],[])) (x.2.1.getD 0) (x.2.2.getD uD).2.2.2.2.2.2.2.2.2.2,true)⟩
theorem anb(x):A.le (Ww yn.sh x) (O3.sh x):=A.br λh=>by
 obtain⟨t,m,c,rfl,E,U,ag⟩:=h;unfold Ww;simp only[Option.getD_some];show _=A.pure (Ew t m c.2.2.2.2.2.2.2.2.2.2,true);rw[A.f' (ei 0 9) (λi (n:Int)=>(some t,m,c,n,(i:Int),())) (λu n=>.next (if (ha (t.2.getD u.toNat []) m).2=true then n+c.2.2.2.2.2.2.2.2.2.2 else n)) (λn=>.next (n,())) (λi n=>0<=n/\n<=100000*(i:Int)) 0 ?_ ?_ ?_ ?_]
 ·rw[dQ,A.aG];rfl
 ·rfl
 ·omega
 ·intro i G n aB;have G:i<10:=by simpa [ei]using G
  have hw:=bA (n:=(i:Int)+1) (by omega) (by omega);have gX:=bA (n:=n+c.2.2.2.2.2.2.2.2.2.2) (by omega) (by omega);have aw:decide ((i:Int)<10)=true:=by grind
  refine⟨?_,λbf dc=>?_⟩
  ·simp only[aw,if_true,Ar,Int.zero_add];rw[show yn.sh (some t,(i:Int),m)=A.pure (ha (t.2.getD ((i:Int)).toNat []) m) from A.bS ⟨t,rfl,E,by simp,by grind⟩ _];simp only[A.aG,cj,hw,gX,V.hn];by_cases an:(ha (t.2.getD ((i:Int)).toNat []) m).2=true
   ·simp only[an,if_true,A.aG,A.bZ,hw];rfl
   ·simp only[an,Bool.false_eq_true,if_false,A.aG,A.bZ,hw];rfl
  grind
 ·intro n aB;have:(ei 0 9).length=10:=by decide
  simp[this]
theorem anc{c:a1}(aC:gZ c){w:z1'}(hw:iR c w=true)(m:Int):Ew (w,nl c w) m c.2.2.2.2.2.2.2.2.2.2=H9 c w m*c.2.2.2.2.2.2.2.2.2.2:=by
 unfold Ew H9;have key:∀ (L:z1') (n:Int),(∀ u∈L,0<=u/\u<=9)->L.foldl (λn u=>if (ha ((nl c w).getD u.toNat []) m).2=true then n+c.2.2.2.2.2.2.2.2.2.2 else n) (n*c.2.2.2.2.2.2.2.2.2.2)=(L.foldl (λn u=>if (nj (g_ c w u) m).1>=0 then n+1 else n) n)*c.2.2.2.2.2.2.2.2.2.2:=by
  intro L;induction L with
  | nil=>simp
  | cons u L aK=>
   intro n h;have hu:=h u (by simp);obtain⟨_,U⟩:=Im aC hw hu m;simp only[List.foldl_cons];rw[Ya c w hu.1 hu.2];grind
 have:=key (ei 0 9) 0 λu hu=>sM.1 hu;grind
theorem ane(x):A.le (Wg wb.sh A1.sh A8.sh O3.sh x) (Ii.sh x):=A.br λh=>by
 obtain⟨c,t⟩:=x;change gJ c at h;unfold Wg;show _=A.pure (Ih c t);unfold Ih;rw[Eu (b:=b4 t 0 9999) h λhc=>A.bS ⟨t,rfl,trivial⟩ _];rcases A5 c (b4 t 0 9999) with⟨E,U,ag⟩ | ⟨E,U,ag,a6⟩
 ·rw[U,ag];simp only[A.aG,List.map_nil,X2];grind
 ·rw[E,a6];simp only[A.aG];rw[if_neg (by simp)];have aC:=oX U;have ao:=(H8.1 aC.Oz).2.2.2.2.2.2;rw[OV (v:=λw=>(H9 c w t*c.2.2.2.2.2.2.2.2.2.2,true)) (Ev h U) λw hw=>?_,A.aG,X3]
  ·rfl
  ·refine (A.bS ⟨(w,nl c w),t,c,rfl,Yb aC w,ao.1,ao.2⟩ _).trans (congrArg A.pure ?_);show (Ew (w,nl c w) t c.2.2.2.2.2.2.2.2.2.2,true)=_;rw[anc aC (wg hw)]
theorem Ye(p:Int×Int)(m:z4')(k v:Int):fe (p::m) k v=if decide (k=p.1)=true then (p.1,v)::m else p::fe m k v:=rfl
theorem O4(k v:Int):∀ m:z4',((m.map (·.1)).Nodup->((fe m k v).map (·.1)).Nodup)/\∀ x,x∈(fe m k v).map (·.1)<->x∈m.map (·.1)\/x=k
 | []=>by
  rw[show fe [] k v=[(k,v)] from rfl];simp
 | p::m=>by
  obtain⟨E,U⟩:=O4 k v m;rw[Ye];grind
theorem Yf(k v:Int){B:Int}:∀ m:z4',(∀ p∈m,0<=p.2/\p.2<=B)->0<=v/\v<=B->∀ p∈fe m k v,0<=p.2/\p.2<=B
 | [],_,ae,p,ao=>by
  rw[show fe [] k v=[(k,v)] from rfl,List.mem_singleton]at ao;grind
 | q::m,h,ae,p,ao=>by
  rw[Ye]at ao;split at ao
  ·grind
  ·rcases List.mem_cons.1 ao with rfl | ao
   ·grind
   ·exact Yf k v m (λx ah=>h x (by grind)) ae p ao
def lF(c:a1)(w:z1')(u t:Int):Int:=if (ha (b8 c w u) t).2=true then iP (ha (b8 c w u) t).1.1 else -1
def yo(m:z4')(k:Int):Int:=Option.getD (Option.map (λx=>x.2) (List.find? (λp=>decide (k=p.1)) m)) 0
structure A9(L:z1')(i:Nat)(m:z4'):Prop where
 mA:(m.map (·.1)).Nodup
 mem:∀ x,x∈m.map (·.1)<->x∈L
 val:∀ p∈m,0<=p.2/\p.2<=(i:Int)
theorem A9.add{L:z1'}{i:Nat}{m:z4'}(h:A9 L i m)(k:Int)(G:i<=60):IntKind.wrap .i64 (yo m k+1)=yo m k+1/\A9 (L++[k]) (i+1) (fe m k (yo m k+1)):=by
 have W:0<=yo m k/\yo m k<=(i:Int):=by
  unfold yo;cases aq:m.find? λp=>decide (k=p.1) with
  | none=>simp
  | some p=>exact h.val p (List.mem_of_find?_eq_some aq)
 refine⟨bA (by omega) (by omega),(O4 _ _ _).1 h.mA,λx=>?_,Yf _ _ _ (λp ao=>by have:=h.val p ao;omega) (by omega)⟩;rw[(O4 _ _ _).2,h.mem];simp
theorem anf{c:a1}(aC:gZ c){w:z1'}(hw:iR c w=true){u:Int}(hu:0<=u/\u<=9):((b8 c w u).filter λe=>ep e.1 == 1).length<=11:=by
 have aj:=Eg aC w u;by_cases ayv:(b8 c w u).length=12
 ·have E:=(ON (Ia hw hu) (by omega:1<(b8 c w u).length)).1;have E:ep (b8 c w u)[1].1=2:=E;have hm:=List.getElem_mem (by omega:1<(b8 c w u).length);have:((b8 c w u).filter λe=>ep e.1 == 1).length<(b8 c w u).length:=by
   refine List.length_filter_lt_length_iff_exists.2 ⟨_,hm,by grind⟩
  omega
 grind
theorem ang(c:a1)(w w':z1')(u:Int):(((b8 c w u).filter λe=>ep e.1 == 1).map (·.1)).Perm (((b8 c w' u).filter λe=>ep e.1 == 1).map (·.1)):=by
 have e:∀ w,((b8 c w u).filter λe=>ep e.1 == 1).map (·.1)=((b8 c w u).map (·.1)).filter λs=>ep s == 1:=λw=>by rw[List.filter_map];rfl
 rw[e,e];exact ((OS c w u).trans (OS c w' u).symm).filter _
theorem O5(c:a1)(w:z1')(u t:Int):lF c w u t=-1\/∃ s∈((b8 c w u).filter λe=>ep e.1 == 1).map (·.1),lF c w u t=iP s:=by
 unfold lF;rcases X' (b8 c w u) t with h | ⟨E,U,ag⟩
 ·left;rw[h];rfl
 ·by_cases W:(ha (b8 c w u) t).2=true
  ·right;rw[if_pos W];rw[ag]at W;exact⟨_,List.mem_map.2 ⟨_,List.mem_filter.2 ⟨E,by simpa using W⟩,rfl⟩,rfl⟩
  ·left;rw[if_neg W]
theorem anh{c:a1}(aC:gZ c){u t:Int}(hu:0<=u/\u<=9){K:z1'}(aB:K.Nodup)(iK:∀ x∈K,x∈(cQ c).map λw=>lF c w u t):K.length<=12:=by
 cases aV:cQ c with
 | nil=>
  rw[aV]at iK;cases K with
  | nil=>simp
  | cons x K=>have:=iK x (by simp);grind
 | cons w0 T=>
  have Am:iR c w0=true:=wg (by grind);have q8:K ⊆ -1::(((b8 c w0 u).filter λe=>ep e.1 == 1).map (·.1)).map iP:=by
   intro x ah;obtain⟨w,hw,rfl⟩:=List.mem_map.1 (iK x ah);rcases O5 c w u t with h | ⟨s,aE,h⟩
   ·grind
   ·rw[h];exact List.mem_cons_of_mem _ (List.mem_map_of_mem ((ang c w w0 u).mem_iff.1 aE))
  have:=aB.length_le_of_subset q8;have ayw:=anf aC Am hu;grind
abbrev O6:aL:=⟨.az (.bI sQ) (.az (.bI bw) (.bI bw)),de,λx=>∃ a b:Int,x.2=(some a,some b),λx=>wa (x.2.1.getD 0) (x.2.2.getD 0)⟩
theorem ani(x):A.le (Wn cg.sh yd.sh x) (O6.sh x):=A.br λ_=>by
 unfold Wn;rw[ami,A.aG,show yd.sh (x.2.2.getD 0)=A.pure (b4 (x.2.2.getD 0) 0 9999) from rfl,A.kF,A.aG,vN];rfl
theorem Yg{c:a1}(aC:gZ c){w:z1'}(hw:iR c w=true){u:Int}(hu:0<=u/\u<=9)(t:Int):(nj (g_ c w u) t).1=lF c w u t:=by rw[(Im aC hw hu t).1];rfl
theorem anj(x):A.le (Wc wb.sh yn.sh sT.sh H3.sh O6.sh x) (Ij.sh x):=A.sK λh=>by
 obtain⟨c,u,t⟩:=x;change gJ c at h;unfold Wc;show A.cy _ λy=>y=rG c u t;unfold rG OG;rw[Eu (b:=wa u t) h λhc=>A.bS ⟨u,t,rfl⟩ _];rcases A5 c (wa u t) with⟨E,U,ag⟩ | ⟨E,U,ag,a6⟩
 ·rw[U,ag];simp only[A.aG];rw[if_pos (by grind)];refine A.eb.2 ?_;simp
 ·rw[E,a6];simp only[A.aG];rw[if_neg (by simp)];have aC:=oX U;have cM:(0<=u/\u<=9)/\0<=t/\t<=9999:=by
   unfold wa at ag;rw[Bool.and_eq_true,oU,oU]at ag;exact ag
  have hu:=cM.1;have hlen:=Ev h U;simp only[Option.isSome_some,A.bq,Option.getD_some];show A.cy (A.bind (A.loop _ ((cQ c).map (iu c),_,0,u,t,[],())) _) _;rw[A.gh];refine (A.BT (p:=λz=>∃ m,z=.next (m,())/\A9 ((cQ c).map λw=>lF c w u t) 60 m) (λD=>∃ (i:Nat) (m:z4'),i<=(cQ c).length/\D=((cQ c).map (iu c),(((cQ c).map (iu c)).length:Int),(i:Int),u,t,m,())/\A9 (((cQ c).take i).map λw=>lF c w u t) i m) (λD=>((cQ c).length - D.2.2.1).toNat) ?_ _ ⟨0,[],Nat.zero_le _,rfl,⟨.nil,by simp,by simp⟩⟩).mono ?_
  ·rintro D ⟨i,m,oB,rfl,bp⟩;by_cases G:i<(cQ c).length
   ·have dA:i<((cQ c).map (iu c)).length:=by grind
    have hw:=bA (n:=(i:Int)+1) (by omega) (by omega);have hm:=List.getElem_mem G;obtain⟨b9,a2⟩:=bp.add (lF c (cQ c)[i] u t) (by omega);have pG:((cQ c).take (i+1)).map (λw=>lF c w u t)=((cQ c).take i).map (λw=>lF c w u t)++[lF c (cQ c)[i] u t]:=by
     rw[List.take_add_one,List.getElem?_eq_getElem G,Option.toList_some,List.map_append];rfl
    simp only[Prod.da,bW,cV dA,if_true,dh dA,cN dA,A.bq,List.getElem_map];rw[Yc aC _ hu.1 hu.2,A.aG];have fin:∀ k,k=lF c (cQ c)[i] u t->(∃ (lh:Nat) (dy:z4'),lh<=(cQ c).length/\(((cQ c).map (iu c),(((cQ c).map (iu c)).length:Int),IntKind.wrap .i64 ((i:Int)+1),u,t,fe m k (IntKind.wrap .i64 (yo m k+1)),()):List (Option dR)×Int×Int×Int×Int×z4'×Unit)=((cQ c).map (iu c),(((cQ c).map (iu c)).length:Int),(lh:Int),u,t,dy,())/\A9 (((cQ c).take lh).map λw=>lF c w u t) lh dy)/\((cQ c).length - IntKind.wrap .i64 ((i:Int)+1)).toNat<((cQ c).length - (i:Int)).toNat:=by
     grind
    cases W:(ha (b8 c (cQ c)[i] u) t).2 with
    | true=>
     simp only[if_true];rw[A.aG,A.bZ];exact A.eb.2 (fin _ (by unfold lF;grind))
    | false=>
     simp only[Bool.false_eq_true,if_false];rw[A.aG,A.bZ];exact A.eb.2 (fin (-1) (by unfold lF;grind))
   ·have ank:i=(cQ c).length:=by omega
    subst ank;have aw:decide (((cQ c).length:Int)<(((cQ c).map (iu c)).length:Int))=false:=by simp
    simp only[aw,Bool.false_eq_true,if_false,A.aG];refine A.eb.2 ⟨m,rfl,bp.mA,?_,λp ao=>by have:=bp.val p ao;omega⟩;have:=bp.mem;grind
  ·rintro z ⟨m,rfl,bp⟩;rw[A.bZ];rw[show H3.sh m=A.pure (jS (some m)) from rfl,A.aG];have anl:m.length<=12:=by
    have:=anh aC hu (t:=t) bp.mA λx ah=>(bp.mem x).1 ah;grind
   rw[show sT.sh (jS (some m))=A.pure (fu hr (m.map (·.1))) from (A.bS (Xl (by omega)) _).trans (congrArg A.pure Xm),A.aG];refine A.eb.2 ?_;have ax:fu hr (m.map (·.1))=(ei (-1) 99).filter λg=>((cQ c).map λw=>(nj (g_ c w u) t).1).contains g:=by
    have anm:((cQ c).map λw=>(nj (g_ c w u) t).1)=(cQ c).map λw=>lF c w u t:=List.map_congr_left λw hw=>Yg aC (wg hw) hu t;rw[anm];have G:(ei (-1) 99).Pairwise (·<·):=by
     unfold ei;rw[List.pairwise_map];exact (List.pairwise_lt_range).imp λh=>by omega
    refine AH ((G.filter _).imp λh=>Int.le_of_lt h) ((List.perm_ext_iff_of_nodup bp.mA ((G.filter _).imp λh=>by omega)).2 λk=>?_);rw[bp.mem,List.mem_filter,sM];simp only[List.contains_iff_mem];refine⟨λan=>⟨?_,an⟩,λan=>an.2⟩;obtain⟨w,hw,rfl⟩:=List.mem_map.1 an;rcases O5 c w u t with h | ⟨s,aE,h⟩
    ·omega
    ·rw[h];obtain⟨e,he,rfl⟩:=List.mem_map.1 aE;have:=O2 aC (List.mem_filter.1 he).1;omega
   rw[ax]
def O7(c:a1)(l:List bB)(t:Int):Bool:=(ha l t).2&&decide (l8 c.2.2.2.1 (ha l t).1.2 t>=c.2.2.2.2.2.2.2.2.1)
theorem ano{c:a1}(aC:gZ c){w:z1'}(hw:iR c w=true){u:Int}(hu:0<=u/\u<=9)(t:Int):O7 c (b8 c w u) t=Em c w u t:=by
 obtain⟨E,U⟩:=Im aC hw hu t;unfold O7 Em;grind
theorem anp(x):A.le (Wl wb.sh yn.sh v_.sh A8.sh x) (Ik.sh x):=A.br λh=>by
 obtain⟨c,t⟩:=x;change gJ c at h;unfold Wl;show _=A.pure (s3 c t);unfold s3;rw[Eu (b:=b4 t 0 9999) h λhc=>A.bS ⟨t,rfl,trivial⟩ _];rcases A5 c (b4 t 0 9999) with⟨E,U,ag⟩ | ⟨E,U,ag,a6⟩
 ·rw[ag];simp only[A.aG];grind
 ·rw[E,a6];simp only[A.aG];rw[if_neg (by simp),if_neg (by simp)];have aC:=oX U;have aI:=oU.1 ag;have hlen:=Ev h U;have aV:∀ w∈cQ c,iR c w=true:=λw hw=>wg hw;rw[A.f' (ei 0 9) (λi (b:z1'×z1')=>(some (uE c),(i:Int),c,t,b.1,b.2,())) (λu b=>.next (if decide (oY c (cQ c) u t=(cQ c).length)=true then b.1++[u] else b.1,if decide (oY c (cQ c) u t > 0)=true then b.2++[u] else b.2)) (λb=>.next (b.1,b.2,())) (λi b=>b.1.length<=i/\b.2.length<=i) ([],[]) ?_ (by simp) ?_ ?_]
  ·rw[dQ,A.aG,A.bZ];have key:∀ (p q:Int->Bool) (l:z1') (a b:z1'),l.foldl (λ(z:z1'×z1') u=>(if p u=true then z.1++[u] else z.1,if q u=true then z.2++[u] else z.2)) (a,b)=(a++l.filter p,b++l.filter q):=by
    intro p q l;induction l with
    | nil=>simp
    | cons u l aK=>
     intro a b;simp only[List.foldl_cons];rw[aK];cases ao:p u<;>cases bt:q u<;>simp[ao,bt]
   rw[key (λu=>decide (oY c (cQ c) u t=(cQ c).length)) (λu=>decide (oY c (cQ c) u t > 0))];simp
  ·rfl
  ·intro i G b iE;have G:i<10:=by simpa [ei]using G
   have hw:=bA (n:=(i:Int)+1) (by omega) (by omega);have aw:decide ((i:Int)<10)=true:=by grind
   refine⟨?_,λbf dc=>?_⟩
   ·simp only[aw,if_true,Ar,Int.zero_add,Prod.da,Option.isSome_some,A.bq,Option.getD_some];rw[A.f' (cQ c) (λk (n:Nat)=>(some (uE c),(i:Int),(n:Int),(i:Int),(cQ c).map (iu c),(((cQ c).map (iu c)).length:Int),(k:Int),c,t,b.1,b.2,())) (λw n=>.next (if Em c w i t=true then n+1 else n)) (λn=>.next (some (uE c),(i:Int),(n:Int),(i:Int),c,t,b.1,b.2,())) (λk n=>n<=k) 0 ?_ (by simp) ?_ ?_]
    ·rw[dQ];have key:∀ (l:List (z1')) (n:Nat),l.foldl (λn w=>if Em c w i t=true then n+1 else n) n=n+oY c l i t:=by
      intro l;induction l with
      | nil=>intro n;rfl
      | cons w l aK=>
       intro n;simp only[List.foldl_cons];rw[aK];unfold oY;grind
     rw[key,Nat.zero_add,A.aG,A.bZ];have BQ:((cQ c).map (iu c)).length=(cQ c).length:=List.length_map _;simp only[Prod.da,Prod.ft,Prod.gP,bW,Option.isSome_some,A.bq,Option.getD_some,BQ];have e2:bQ (Add.add b.1.length (Add.add 0 1)):=gf (by grind);have oj:bQ (Add.add b.2.length (Add.add 0 1)):=gf (by grind);have d1:decide ((oY c (cQ c) i t:Int) > 0)=decide (oY c (cQ c) i t > 0):=by simp
     have d2:decide ((oY c (cQ c) i t:Int)=((cQ c).length:Int))=decide (oY c (cQ c) i t=(cQ c).length):=by grind
     rw[d1];cases E:decide (oY c (cQ c) i t > 0)<;>cases U:decide (oY c (cQ c) i t=(cQ c).length)<;>
      simp only[if_true,Bool.false_eq_true,if_false,A.bu e2,A.bu oj,A.aG,A.bZ,Option.isSome_some,A.bq,Option.getD_some,BQ,d2,U,cj,hw,V.hn]<;>rfl
    ·rfl
    ·intro k an n aB;have rD:k<((cQ c).map (iu c)).length:=by grind
     have hw:=bA (n:=(k:Int)+1) (by omega) (by omega);have gX:=bA (n:=(n:Int)+1) (by omega) (by omega);have kR:=aV _ (List.getElem_mem an);have l9:=El U kR;have hu:0<=(i:Int)/\(i:Int)<=9:=by omega
     have tR:=ano aC kR hu t;obtain⟨cp,c8⟩:=Im aC kR hu t;refine⟨?_,λbf dc=>?_⟩
     ·simp only[Prod.da,Prod.ft,Prod.gP,Prod.ir,Prod.jR,Prod.kY,bW,cV rD,if_true,dh rD,cN rD,A.bq,cj,hw,List.getElem_map];rw[Yc aC _ hu.1 hu.2,A.aG,<-tR];unfold O7;cases W:(ha (b8 c (cQ c)[k] (i:Int)) t).2 with
      | true=>
       have Cl:AU (c,(ha (b8 c (cQ c)[k] (i:Int)) t).1.2,t):=by
        have:=amj aC l9 aI.2 (u:=(i:Int)) (t:=t) (by grind);grind
       have anq:v_.sh (c,(ha (b8 c (cQ c)[k] (i:Int)) t).1.2,t)=A.pure (l8 c.2.2.2.1 (ha (b8 c (cQ c)[k] (i:Int)) t).1.2 t):=A.bS Cl _;simp only[anq,A.iU,A.fC,Bool.true_and,and_self,forall_const,A.bq,true_and];by_cases hm:l8 c.2.2.2.1 (ha (b8 c (cQ c)[k] (i:Int)) t).1.2 t>=c.2.2.2.2.2.2.2.2.1
       ·simp_all
       ·simp only[hm,decide_false,Bool.false_eq_true,if_false,A.aG,A.bZ,hw,V.hn];rfl
      | false=>
       simp_all
     grind
    simp
   grind
  ·intro b iE;rfl
def Yh(O8:a1->A Int)(x:a1):A Bool:=
 if (decide (Int.ofNat (List.length x.1) > 20)||decide (Int.ofNat (List.length x.2.1) > 40)||decide (Int.ofNat (List.length x.2.2.1) > 60)||decide (Int.ofNat (List.length x.2.2.2.1) > 40))=true then A.pure true else A.bind (O8 x) λy=>if decide (y≠0)=true then A.pure false else A.bind (A.loop (λ(D:Int×Int×a1×Unit)=>letI b:=List.getD D.2.2.1.1 (Int.toNat D.2.1) (0,0);letI a:=D.2.1<Int.ofNat (List.length D.2.2.1.1);if decide a=true then A.ab (0<=D.2.1/\a) (A.ab (0<=D.2.1/\a) (A.pure (V.next (IntKind.wrap .i64 (D.1*IntKind.wrap .i64 (Add.add (IntKind.wrap .i64 (b.2-b.1)) 1)),IntKind.wrap .i64 (Add.add D.2.1 1),D.2.2.1,())))) else A.bind (A.pure (V.next (D.1,()))) λr=>A.pure (V.done r)) (1,0,x,())) (V.bz (λ(D:Int×Unit)=>A.pure (decide (D.1 > 60))))
def k2(c:a1):Bool:=decide (c.1.length > 20)||decide (c.2.1.length > 40)||decide (c.2.2.1.length > 60)||decide (c.2.2.2.1.length > 40)||(decide (cx c=0)&&decide (kl c.1 > 60))
theorem Yi:∀ (l:z4') (n:Nat),l.foldl (λn s=>n*(s.2 - s.1+1).toNat) n=n*kl l
 | [],n=>by simp[kl]
 | s::l,n=>by simp only[List.foldl_cons,kl];rw[Yi l,Nat.mul_assoc]
abbrev wh:aL:=⟨iO,de,iy,k2⟩
theorem anr(x):A.le (Yh hs.sh x) (wh.sh x):=A.br λh=>by
 unfold Yh;show _=A.pure (k2 x);simp only[bW];by_cases aE:(decide ((x.1.length:Int) > 20)||decide ((x.2.1.length:Int) > 40)||decide ((x.2.2.1.length:Int) > 60)||decide ((x.2.2.2.1.length:Int) > 40))=true
 ·rw[if_pos aE];refine congrArg A.pure ?_;unfold k2;grind
 ·rw[if_neg aE,show hs.sh x=A.pure (cx x) from A.bS h _,A.aG];have e:k2 x=(decide (cx x=0)&&decide (kl x.1 > 60)):=by
   unfold k2;grind
  rw[e];by_cases hc:cx x=0
  ·have aC:=oX hc;rw[if_neg (by grind)];have aB:=aC.ec;rw[A.f' x.1 (λi (n:Nat)=>((n:Int),(i:Int),x,())) (λs n=>.next (n*(s.2 - s.1+1).toNat)) (λn=>.next ((n:Int),())) (λi n=>n<=61 ^ i) 1 ?_ ?_ ?_ ?_]
   ·rw[dQ,Yi,Nat.one_mul,A.aG,A.bZ];grind
   ·rfl
   ·simp
   ·intro i G n hX;have an:=aC.clk _ (List.getElem_mem G);have W:n<=61 ^ 3:=Nat.le_trans hX (Nat.pow_le_pow_right (by omega) (by omega));have hw:=bA (n:=(i:Int)+1) (by omega) (by omega);have cp:=bA (n:=x.1[i].2 - x.1[i].1) (by omega) (by omega);have c8:=bA (n:=x.1[i].2 - x.1[i].1+1) (by omega) (by omega);have zB:((n*(x.1[i].2 - x.1[i].1+1).toNat:Nat):Int)=(n:Int)*(x.1[i].2 - x.1[i].1+1):=by
     grind
    have hm:n*(x.1[i].2 - x.1[i].1+1).toNat<=61 ^ (i+1):=by
     rw[Nat.pow_succ];exact Nat.mul_le_mul hX (by omega)
    have Ho:n*(x.1[i].2 - x.1[i].1+1).toNat<=61 ^ 4:=Nat.le_trans hm (Nat.pow_le_pow_right (by omega) (by omega));have eX:=bA (n:=(n:Int)*(x.1[i].2 - x.1[i].1+1)) (by omega) (by omega);simp_all
   simp
  grind
theorem ans{c:a1}(h:k2 c=false):gJ c:=by
 unfold k2 at h;simp only[Bool.or_eq_false_iff,decide_eq_false_iff_not,Bool.and_eq_false_imp,decide_eq_true_eq]at h;obtain⟨⟨⟨⟨E,U⟩,ag⟩,a6⟩,bM⟩:=h;exact⟨⟨by omega,by omega,by omega,by omega⟩,λhc=>by omega⟩
end Go.Fer.H
