/- Part 5 of the proof of TopSlips: shallow programs of Go functions, and what they compute. No condition. -/
import Derived.Test.YtplfnoecifjgeaaGreatDoorTopSlipsD
noncomputable section
set_option linter.unusedVariables false
set_option linter.unusedSimpArgs false
namespace Go.Fer.H
open A (W)
set_option maxRecDepth 100000
abbrev aZ:Type:=Int×Int×Int×Int×Int×Int
abbrev pJ:Type:=Int×Int×Int×Int×Int×Int×Int
abbrev aX:Type:=z4'×List aZ×z1'×z4'×pJ
abbrev bz:Type:=aZ×Int
abbrev dQ:Type:=z1'×List (List bz)
abbrev ea:Type:=aX×List aZ×List (Option dQ)
abbrev hp:Type:=z4'×List aZ×z1'×z4'×Int×Int×Int×Int×Int×Int×Int×List aZ×List (Option dQ)×Unit
abbrev ff(l:z4')(a b:Int):z4':=lV (k:=.int .i64) (v:=.int .i64) l a b
abbrev hq:ad:=.st (.aB (.int .i64) (.aB (.int .i64) (.aB (.int .i64) (.aB (.int .i64) (.aB (.int .i64) (.int .i64))))))
abbrev k1(l:List (Int×aZ))(a:Int)(b:aZ):List (Int×aZ):=lV (k:=.int .i64) (v:=hq) l a b
abbrev ako:List UInt8:=0::1::(List.replicate 2 2++(List.replicate 4 3++(List.replicate 8 4++(List.replicate 16 5++(List.replicate 32 6++(List.replicate 64 7++List.replicate 128 8))))))
abbrev _root_.Prod.dc{fM fN fO fP fQ fH fI:Type}(x:fM×fN×fO×fP×fQ×fH×fI):fH:=x.2.2.2.2.2.1
abbrev _root_.Prod.fv{fM fN fO fP fQ fH fI f':Type}(x:fM×fN×fO×fP×fQ×fH×fI×f'):fI:=x.2.2.2.2.2.2.1
abbrev _root_.Prod.gR{fM fN fO fP fQ fH fI f' gy:Type}(x:fM×fN×fO×fP×fQ×fH×fI×f'×gy):f':=x.2.2.2.2.2.2.2.1
abbrev _root_.Prod.iz{fM fN fO fP fQ fH fI f' gy gS:Type}(x:fM×fN×fO×fP×fQ×fH×fI×f'×gy×gS):gy:=x.2.2.2.2.2.2.2.2.1
abbrev _root_.Prod.jX{fM fN fO fP fQ fH fI f' gy gS hr:Type}(x:fM×fN×fO×fP×fQ×fH×fI×f'×gy×gS×hr):gS:=x.2.2.2.2.2.2.2.2.2.1
abbrev _root_.Prod.k2{fM fN fO fP fQ fH fI f' gy gS hr hQ:Type}(x:fM×fN×fO×fP×fQ×fH×fI×f'×gy×gS×hr×hQ):hr:=x.2.2.2.2.2.2.2.2.2.2.1
abbrev _root_.Prod.hR{fM fN fO fP fQ fH fI f' gy gS hr hQ ih:Type}(x:fM×fN×fO×fP×fQ×fH×fI×f'×gy×gS×hr×hQ×ih):hQ:=x.2.2.2.2.2.2.2.2.2.2.2.1
abbrev _root_.Prod.np{fM fN fO fP fQ fH fI f' gy gS hr hQ ih iP:Type}(x:fM×fN×fO×fP×fQ×fH×fI×f'×gy×gS×hr×hQ×ih×iP):ih:=x.2.2.2.2.2.2.2.2.2.2.2.2.1
abbrev _root_.Prod.pK{fM fN fO fP fQ fH fI f' gy gS hr hQ ih iP jw:Type}(x:fM×fN×fO×fP×fQ×fH×fI×f'×gy×gS×hr×hQ×ih×iP×jw):iP:=x.2.2.2.2.2.2.2.2.2.2.2.2.2.1
abbrev _root_.Prod.sT{fM fN fO fP fQ fH fI f' gy gS hr hQ ih iP jw kk:Type}(x:fM×fN×fO×fP×fQ×fH×fI×f'×gy×gS×hr×hQ×ih×iP×jw×kk):jw:=x.2.2.2.2.2.2.2.2.2.2.2.2.2.2.1
abbrev _root_.Prod.yb{fM fN fO fP fQ fH fI f' gy gS hr hQ ih iP jw kk k3:Type}(x:fM×fN×fO×fP×fQ×fH×fI×f'×gy×gS×hr×hQ×ih×iP×jw×kk×k3):kk:=x.2.2.2.2.2.2.2.2.2.2.2.2.2.2.2.1
abbrev _root_.Prod.N1{fM fN fO fP fQ fH fI f' gy gS hr hQ ih iP jw kk k3 ma:Type}(x:fM×fN×fO×fP×fQ×fH×fI×f'×gy×gS×hr×hQ×ih×iP×jw×kk×k3×ma):k3:=x.2.2.2.2.2.2.2.2.2.2.2.2.2.2.2.2.1
abbrev _root_.Prod.D2{fM fN fO fP fQ fH fI f' gy gS hr hQ ih iP jw kk k3 ma nq:Type}(x:fM×fN×fO×fP×fQ×fH×fI×f'×gy×gS×hr×hQ×ih×iP×jw×kk×k3×ma×nq):ma:=x.2.2.2.2.2.2.2.2.2.2.2.2.2.2.2.2.2.1
abbrev _root_.Prod.D3{fM fN fO fP fQ fH fI f' gy gS hr hQ ih iP jw kk k3 ma nq o1:Type}(x:fM×fN×fO×fP×fQ×fH×fI×f'×gy×gS×hr×hQ×ih×iP×jw×kk×k3×ma×nq×o1):nq:=x.2.2.2.2.2.2.2.2.2.2.2.2.2.2.2.2.2.2.1
abbrev _root_.Prod.D4{fM fN fO fP fQ fH fI f' gy gS hr hQ ih iP jw kk k3 ma nq o1 qF:Type}(x:fM×fN×fO×fP×fQ×fH×fI×f'×gy×gS×hr×hQ×ih×iP×jw×kk×k3×ma×nq×o1×qF):o1:=x.2.2.2.2.2.2.2.2.2.2.2.2.2.2.2.2.2.2.2.1
abbrev _root_.Prod.N2{fM fN fO fP fQ fH fI f' gy gS hr hQ ih iP jw kk k3 ma nq o1 qF sU:Type}(x:fM×fN×fO×fP×fQ×fH×fI×f'×gy×gS×hr×hQ×ih×iP×jw×kk×k3×ma×nq×o1×qF×sU):qF:=x.2.2.2.2.2.2.2.2.2.2.2.2.2.2.2.2.2.2.2.2.1
abbrev _root_.Prod.N3{fM fN fO fP fQ fH fI f' gy gS hr hQ ih iP jw kk k3 ma nq o1 qF sU vS:Type}(x:fM×fN×fO×fP×fQ×fH×fI×f'×gy×gS×hr×hQ×ih×iP×jw×kk×k3×ma×nq×o1×qF×sU×vS):sU:=x.2.2.2.2.2.2.2.2.2.2.2.2.2.2.2.2.2.2.2.2.2.1
abbrev _root_.Prod.akp{fM fN fO fP fQ fH fI f' gy gS hr hQ ih iP jw kk k3 ma nq o1 qF sU vS AF:Type}(x:fM×fN×fO×fP×fQ×fH×fI×f'×gy×gS×hr×hQ×ih×iP×jw×kk×k3×ma×nq×o1×qF×sU×vS×AF):vS:=x.2.2.2.2.2.2.2.2.2.2.2.2.2.2.2.2.2.2.2.2.2.2.1
abbrev _root_.Prod.rI{fM fN fO fP fQ fH fI f' gy gS hr hQ ih iP jw kk k3 ma nq o1 qF sU vS AF HV:Type}(x:fM×fN×fO×fP×fQ×fH×fI×f'×gy×gS×hr×hQ×ih×iP×jw×kk×k3×ma×nq×o1×qF×sU×vS×AF×HV):AF:=x.2.2.2.2.2.2.2.2.2.2.2.2.2.2.2.2.2.2.2.2.2.2.2.1
abbrev _root_.Prod.D5{fM fN fO fP fQ fH fI f' gy gS hr hQ ih iP jw kk k3 ma nq o1 qF sU vS AF HV akq:Type}(x:fM×fN×fO×fP×fQ×fH×fI×f'×gy×gS×hr×hQ×ih×iP×jw×kk×k3×ma×nq×o1×qF×sU×vS×AF×HV×akq):HV:=x.2.2.2.2.2.2.2.2.2.2.2.2.2.2.2.2.2.2.2.2.2.2.2.2.1
def Wj(uu:aX×(Option ea->A Bool)->A (Option ea×Int))(D6:Option dQ×Int×Int->A (bz×Bool))(D7:(z1'->Prop)->A (z1'))(akr:z4'->A (z1'->Prop))(aks:Option ea×Option Int×Option Int->A Bool)(x:aX×Int×Int):A (z1'×Int):=
 A.bind (uu (x.1,λhB=>aks (hB,some x.2.1,some x.2.2))) λy=>letI a:=(Option.getD y.1 (([],[],[],[],0,0,0,0,0,0,0),[],[])).2.2;if decide (y.2≠0)=true then A.pure ([],y.2) else A.bind (A.ae (Option.isSome y.1=true) (A.loop (λ(D:List (Option dQ)×Int×Int×Int×Int×z4'×Unit)=>letI b:=D.2.2;if decide (b.1<D.2.1)=true then A.bind (A.ae (0<=b.1/\b.1<Int.ofNat (List.length D.1)) (A.bind (D6 (List.getD D.1 (Int.toNat b.1) none,b.2.1,b.2.2.1)) (λy=>if y.2=true then A.pure (W.next (D.1,D.2.1,b.1,b.2.1,b.2.2.1,ff D.dc y.1.1.2.2.2.2.2 (IntKind.wrap .i64 (Add.add (Option.getD (Option.map (λx=>x.2) (List.find? (λp=>decide (y.1.1.2.2.2.2.2=p.1)) D.dc)) 0) 1)),())) else A.pure (W.next (D.1,D.2.1,b.1,b.2.1,b.2.2.1,ff D.dc (-1) (IntKind.wrap .i64 (Add.add (Option.getD (Option.map (λx=>x.2) (List.find? (λp=>decide (-1=p.1)) D.dc)) 0) 1)),()))))) (W.bC (λ(D:List (Option dQ)×Int×Int×Int×Int×z4'×Unit)=>A.pure (W.next (D.1,D.2.1,IntKind.wrap .i64 (Add.add D.2.2.1 1),D.2.2.2.1,D.2.2.2.2.1,D.dc,())))) else A.bind (A.pure (W.next (D.dc,()))) λr=>A.pure (W.done r)) (a,Int.ofNat (List.length a),0,x.2.1,x.2.2,[],()))) (W.bC (λ(D:z4'×Unit)=>A.bind (akr D.1) λy=>A.bind (D7 y) λy=>A.pure (y,0)))
def Wk(x:aX):A aX:=
 A.ae (bQ (Add.add 0 (List.length x.1))) (A.ae (bQ (Add.add 0 (List.length x.2.1))) (A.ae (bQ (Add.add 0 (List.length x.2.2.1))) (A.ae (bQ (Add.add 0 (List.length x.2.2.2.1))) (A.pure ([]++x.1,[]++x.2.1,[]++x.2.2.1,[]++x.2.2.2.1,x.2.2.2.2)))))
def Wl(N4:aX×Int×(Int->A Int)->A ((Int×Int)×Int))(akt:Int×Option aX->A Int)(x:aX×Int):A ((Int×Int)×Int):=
 A.bind (N4 (x.1,x.2,λhB=>akt (hB,some x.1))) λy=>A.pure y
def Wm(N4:aX×Int×(Int->A Int)->A ((Int×Int)×Int))(aku:Int->A Int)(x:aX×Int):A ((Int×Int)×Int):=
 A.bind (N4 (x.1,x.2,aku)) λy=>A.pure y
def Wn(uu:aX×(Option ea->A Bool)->A (Option ea×Int))(D8:Option ea×(Option dQ->A (Int×Bool))->A ((Int×Int)×Bool))(akv:Option ea×Option Int->A Bool)(akw:Option dQ×Option Int×Option aX->A (Int×Bool))(x:aX×Int):A ((Int×Int)×Int):=
 A.bind (uu (x.1,λhB=>akv (hB,some x.2))) λy=>if decide (y.2≠0)=true then A.pure ((0,0),y.2) else A.bind (D8 (y.1,λhB=>akw (hB,some x.2,some x.1))) λy=>A.pure (y.1,0)
def Wo(uu:aX×(Option ea->A Bool)->A (Option ea×Int))(D8:Option ea×(Option dQ->A (Int×Bool))->A ((Int×Int)×Bool))(akx:Option ea×Option Int->A Bool)(aky:Option dQ×Option (Option ea)×Option Int×Option aX->A (Int×Bool))(x:aX×Int):A ((Int×Int)×Int):=
 A.bind (uu (x.1,λhB=>akx (hB,some x.2))) λy=>if decide (y.2≠0)=true then A.pure ((0,0),y.2) else A.bind (D8 (y.1,λhB=>aky (hB,some y.1,some x.2,some x.1))) λy=>A.pure (y.1,0)
def Wp(akz:aX->A Bool)(N5:List aZ->A (List aZ×Bool))(x:aX):A Int:=
 A.bind (akz x) λy=>if (!y)=true then A.pure 90 else A.bind (N5 x.2.1) λy=>if (!y.2)=true then A.pure 91 else A.pure 0
def Wq(akA:aX->A Bool)(Wr:aZ×Int×Int×Int×Int×Int×Int->A Bool)(x:aX):A Int:=
 A.bind (akA x) λy=>if (!y)=true then A.pure 90 else A.bind (A.loop (λ(D:Int×aX×Unit)=>if decide (D.1<Int.ofNat (List.length D.2.1.2.1))=true then A.bind (A.loop (λ(D:Int×Int×aX×Unit)=>letI c:=D.2.2.1;letI b:=Int.ofNat (List.length c.2.1);letI a:=(List.getD c.2.1 (Int.toNat D.2.1) (0,0,0,0,0,0),List.getD c.2.1 (Int.toNat D.1) (0,0,0,0,0,0));if decide (D.2.1<D.1)=true then A.ae (0<=D.2.1/\D.2.1<b) (A.ae (0<=D.1/\D.1<b) (A.ae (Wr a).cr (if A.val (Wr a) false=true then A.bind (A.bind (A.bind (A.bind (A.pure 91) (λr=>A.pure (W.done r))) (λr=>A.pure (W.done r))) (λr=>A.pure (W.done r))) λr=>A.pure (W.done r) else A.pure (W.next (D.1,IntKind.wrap .i64 (Add.add D.2.1 1),c,()))))) else A.bind (A.pure (W.next (D.1,c,()))) λr=>A.pure (W.done r)) (D.1,0,D.2.1,())) (W.bC (λ(D:Int×aX×Unit)=>A.pure (W.next (IntKind.wrap .i64 (Add.add D.1 1),D.2.1,())))) else A.bind (A.pure (W.next ())) λr=>A.pure (W.done r)) (0,x,())) (W.bC (λ(D:Unit)=>A.pure 0))
def Ws(uu:aX×(Option ea->A Bool)->A (Option ea×Int))(D6:Option dQ×Int×Int->A (bz×Bool))(AG:aX×Int×Int->A Int)(akB:Option ea×Option Int->A Bool)(x:aX×Int):A (z1'×z1'×Int):=
 A.bind (uu (x.1,λhB=>akB (hB,some x.2))) λy=>if decide (y.2≠0)=true then A.pure ([],[],y.2) else A.bind (A.loop (λ(D:Option ea×Int×aX×Int×z1'×z1'×Unit)=>letI b:=(Option.getD D.1 (([],[],[],[],0,0,0,0,0,0,0),[],[])).2.2;if decide (D.2.1<10)=true then A.bind (A.bind (A.ae (Option.isSome D.1=true) (A.loop (λ(D:Option ea×Int×Int×Int×List (Option dQ)×Int×Int×aX×Int×z1'×z1'×Unit)=>letI d:=D.2.2.2;if decide (D.fv<D.dc)=true then A.bind (A.ae (0<=D.fv/\D.fv<Int.ofNat (List.length d.2.1)) (A.bind (D6 (List.getD d.2.1 (Int.toNat D.fv) none,D.2.1,D.iz)) (λy=>letI a:=y.2=true;letI c:=a->a/\True/\True;A.ae c (A.ae (a->(a/\a/\a/\True)/\(AG (D.gR,y.1.2,D.iz)).cr/\True) (A.ae c (A.ae c (A.ae (a->(a/\a)/\True/\True) (A.ae (True/\(a->a)) (if (y.2&&decide (A.val (AG (D.gR,y.1.2,D.iz)) 0>=D.gR.iz))=true then A.pure (W.next (D.1,D.2.1,IntKind.wrap .i64 (Add.add D.2.2.1 1),d.1,d.2.1,D.dc,D.fv,D.gR,D.iz,D.jX,D.k2,())) else A.pure (W.next (D.1,D.2.1,D.2.2.1,d.1,d.2.1,D.dc,D.fv,D.gR,D.iz,D.jX,D.k2,()))))))))))) (W.bC (λ(D:Option ea×Int×Int×Int×List (Option dQ)×Int×Int×aX×Int×z1'×z1'×Unit)=>A.pure (W.next (D.1,D.2.1,D.2.2.1,D.2.2.2.1,D.2.2.2.2.1,D.dc,IntKind.wrap .i64 (Add.add D.fv 1),D.gR,D.iz,D.jX,D.k2,())))) else A.bind (A.pure (W.next (D.1,D.2.1,D.2.2.1,d.1,D.gR,D.iz,D.jX,D.k2,()))) λr=>A.pure (W.done r)) (D.1,D.2.1,0,D.2.1,b,Int.ofNat (List.length b),0,D.2.2.1,D.2.2.2.1,D.2.2.2.2.1,D.dc,()))) (W.bC (λ(D:Option ea×Int×Int×Int×aX×Int×z1'×z1'×Unit)=>letI e:=D.2.2;A.bind (if decide (e.1 > 0)=true then A.ae (bQ (Add.add (List.length D.gR) (Add.add 0 1))) (A.pure (W.next (D.1,D.2.1,e.1,e.2.1,e.2.2.1,D.dc,D.fv,D.gR++[D.2.1],()))) else A.pure (W.next (D.1,D.2.1,e.1,e.2.1,e.2.2.1,D.dc,D.fv,D.gR,()))) (W.bC (λ(D:Option ea×Int×Int×Int×aX×Int×z1'×z1'×Unit)=>letI f:=D.2.2.2;A.ae (Option.isSome D.1=true) (if decide (D.2.2.1=Int.ofNat (List.length (Option.getD D.1 (([],[],[],[],0,0,0,0,0,0,0),[],[])).2.2))=true then A.ae (bQ (Add.add (List.length D.fv) (Add.add 0 1))) (A.pure (W.next (D.1,f.1,f.2.1,D.dc,D.fv++[D.2.1],D.gR,()))) else A.pure (W.next (D.1,f.1,f.2.1,D.dc,D.fv,D.gR,())))))))) (W.bC (λ(D:Option ea×Int×aX×Int×z1'×z1'×Unit)=>A.pure (W.next (D.1,IntKind.wrap .i64 (Add.add D.2.1 1),D.2.2.1,D.2.2.2.1,D.2.2.2.2.1,D.dc,())))) else A.bind (A.pure (W.next (D.2.2.2.2.1,D.dc,()))) λr=>A.pure (W.done r)) (y.1,0,x.1,x.2,[],[],())) (W.bC (λ(D:z1'×z1'×Unit)=>A.pure (D.1,D.2.1,0)))
def Wt(AH:aX->A Int)(akC:List aZ×Unit->A (Bool×List aZ×Unit))(akD:(Int×Int×Int×Int×Int×Int->A Bool)×List aZ×Unit->A ((Nat×Nat)×List aZ×Unit))(N6:z1'×hp->A (hp))(akE:aZ×Option aX->A Bool)(x:aX×(Option ea->A Bool)):A (Option ea×Int):=
 A.bind (AH x.1) λy=>if decide (y≠0)=true then A.pure (none,y) else A.bind (akC (x.1.2.1,())) λy=>A.ae True (A.ae True (A.bind (akD (λhB=>akE (hB,some x.1),y.2.1,())) (λy=>A.ae True (A.bind (A.bind (x.2 (some (x.1,List.drop y.1.1 (List.take y.1.2 y.2.1),[]))) (λb2=>if (!b2)=true then A.bind (A.pure (none,1)) λr=>A.pure (W.done r) else A.pure (W.next (x.1.1,x.1.2.1,x.1.2.2.1,x.1.2.2.2.1,x.1.2.2.2.2.1,x.1.dc,x.1.fv,x.1.gR,x.1.iz,x.1.jX,x.1.2.2.2.2.2.2.2.2.2.2,y.1,y.2.1,[],())))) (W.bC (λ(D:z4'×List aZ×z1'×z4'×Int×Int×Int×Int×Int×Int×Int×(Nat×Nat)×List aZ×List (Option dQ)×Unit)=>A.bind (N6 ([],D.1,D.2.1,D.2.2.1,D.2.2.2.1,D.2.2.2.2.1,D.dc,D.fv,D.gR,D.iz,D.jX,D.k2,List.drop D.hR.1 (List.take D.hR.2 D.np),D.pK,())) λy=>A.ae True (if decide (Int.ofNat (List.length y.np)=0)=true then A.pure (none,3) else A.pure (some ((y.1,y.2.1,y.2.2.1,y.2.2.2.1,y.2.2.2.2.1,y.dc,y.fv,y.gR,y.iz,y.jX,y.k2),y.hR,y.np),0))))))))
def Wu(jx:Int×Int×Int->A Bool)(D9:Int->A Bool)(x:Option ea×Option Int×Option Int):A Bool:=
 A.bind (jx (Option.getD x.2.1 0,0,9)) λy=>A.bind (cu y (D9 (Option.getD x.2.2 0)) false) λb2=>A.pure (y&&b2)
def akF(x:Int×Int×Int):A Bool:=
 A.pure (decide (x.2.1<=x.1)&&decide (x.1<=x.2.2))
def Wv(jx:Int×Int×Int->A Bool)(x:Int):A Bool:=
 A.bind (jx (x,0,9999)) λy=>A.pure y
def Ww(x:Option dQ×Int×Int):A (bz×Bool):=
 letI b:=List.getD (Option.getD x.1 ([],[[],[],[],[],[],[],[],[],[],[]])).2 (Int.toNat x.2.1) [];A.bind (A.ae (Option.isSome x.1=true) (A.ae (0<=x.2.1/\x.2.1<Int.ofNat 10) (A.loop (λ(D:Int×Bool×List bz×Int×Int×bz×bz×Unit)=>letI d:=D.2.2;letI c:=d.2.2.1;letI a:=List.getD d.1 (Int.toNat c) ((0,0,0,0,0,0),0);if decide (c<d.2.1)=true then A.bind (A.ae (0<=c/\c<Int.ofNat (List.length d.1)) (if decide (a.2<=D.1)=true then A.pure (W.next (D.1,decide (a.1.2.2.2.1=1),d.1,d.2.1,c,D.dc,a,())) else A.pure (W.next (D.1,D.2.1,d.1,d.2.1,c,D.dc,D.fv,())))) (W.bC (λ(D:Int×Bool×List bz×Int×Int×bz×bz×Unit)=>A.pure (W.next (D.1,D.2.1,D.2.2.1,D.2.2.2.1,IntKind.wrap .i64 (Add.add D.2.2.2.2.1 1),D.dc,D.fv,())))) else A.bind (A.pure (W.next (D.2.1,D.dc,D.fv,()))) λr=>A.pure (W.done r)) (x.2.2,false,b,Int.ofNat (List.length b),0,((0,0,0,0,0,0),0),((0,0,0,0,0,0),0),())))) (W.bC (λ(D:Bool×bz×bz×Unit)=>A.pure (D.2.2.1,D.1)))
def Wx(N7:z1'×Unit->A (z1'×Unit))(akG:(z1'->Prop)×Unit->A (z1'×Unit))(x:z1'->Prop):A (z1'):=
 A.bind (akG (x,())) λy=>A.bind (N7 (y.1,())) λy=>A.pure y.1
def akH(akI:Option (z4')->z1'->Prop)(x:z4'):A (z1'->Prop):=
 A.pure (akI (some x))
def Wy(uu:aX×(Option ea->A Bool)->A (Option ea×Int))(D8:Option ea×(Option dQ->A (Int×Bool))->A ((Int×Int)×Bool))(akJ:Option ea×Option Int->A Bool)(akK:Option dQ×Option (Option ea)×Option Int×Option (Int->A Int)->A (Int×Bool))(x:aX×Int×(Int->A Int)):A ((Int×Int)×Int):=
 A.bind (uu (x.1,λhB=>akJ (hB,some x.2.1))) λy=>if decide (y.2≠0)=true then A.pure ((0,0),y.2) else A.bind (D8 (y.1,λhB=>akK (hB,some y.1,some x.2.1,some x.2.2))) λy=>if (!y.2)=true then A.pure ((0,0),3) else A.pure (y.1,0)
def Wz(HW:pJ×Int->A Int)(x:Int×Option aX):A Int:=
 A.bind (HW ((Option.getD x.2 ([],[],[],[],0,0,0,0,0,0,0)).2.2.2.2,x.1)) λy=>A.pure y
def WA(x:pJ×Int):A Int:=
 letI c:=x.1.2;letI b:=IntKind.wrap .i64 (x.2-x.1.1);letI a:=IntKind.wrap .i64 (c.2.1*IntKind.wrap .i64 (Int.tdiv (IntKind.wrap .i64 (IntKind.wrap .i64 (Add.add (if b > 0 then b else 0) c.1)-1)) c.1));if decide (x.2>=c.2.2.2.1)=true then A.pure x.1.dc else A.ae (c.1≠0) (A.pure (if a<c.2.2.1 then a else c.2.2.1))
def akL(x:Int):A Int:=
 A.pure x
def WB(D9:Int->A Bool)(x:Option ea×Option Int):A Bool:=
 A.bind (D9 (Option.getD x.2 0)) λy=>A.pure y
def WC(x:Option ea×(Option dQ->A (Int×Bool))):A ((Int×Int)×Bool):=
 letI b:=(Option.getD x.1 (([],[],[],[],0,0,0,0,0,0,0),[],[])).2.2;A.bind (A.ae (Option.isSome x.1=true) (A.loop (λ(D:(Option dQ->A (Int×Bool))×Bool×List (Option dQ)×Int×Int×(Int×Int)×Unit)=>letI c:=D.2.2;letI a:=c.2.2.1;if decide (a<c.2.1)=true then A.bind (A.ae (0<=a/\a<Int.ofNat (List.length c.1)) (A.bind (D.1 (List.getD c.1 (Int.toNat a) none)) (λy=>if (!y.2)=true then A.pure (W.next (D.1,D.2.1,c.1,c.2.1,a,D.dc,())) else if (!D.2.1)=true then A.pure (W.next (D.1,true,c.1,c.2.1,a,(y.1,y.1),())) else A.pure (W.next (D.1,D.2.1,c.1,c.2.1,a,(if y.1<D.dc.1 then y.1 else D.dc.1,if y.1 > D.dc.2 then y.1 else D.dc.2),()))))) (W.bC (λ(D:(Option dQ->A (Int×Bool))×Bool×List (Option dQ)×Int×Int×(Int×Int)×Unit)=>A.pure (W.next (D.1,D.2.1,D.2.2.1,D.2.2.2.1,IntKind.wrap .i64 (Add.add D.2.2.2.2.1 1),D.dc,())))) else A.bind (A.pure (W.next (D.2.1,D.dc,()))) λr=>A.pure (W.done r)) (x.2,false,b,Int.ofNat (List.length b),0,(0,0),()))) (W.bC (λ(D:Bool×(Int×Int)×Unit)=>A.pure (D.2.1,D.1)))
def WD(D6:Option dQ×Int×Int->A (bz×Bool))(x:Option dQ×Option Int×Option aX):A (Int×Bool):=
 A.bind (A.loop (λ(D:Option dQ×Int×aX×Int×Int×Unit)=>letI a:=D.2.2.2;if decide (a.2.1<10)=true then A.bind (A.bind (D6 (D.1,a.2.1,D.2.1)) (λy=>if y.2=true then A.pure (W.next (D.1,D.2.1,D.2.2.1,IntKind.wrap .i64 (Add.add a.1 D.2.2.1.2.2.2.2.2.2.2.2.2.2),a.2.1,())) else A.pure (W.next (D.1,D.2.1,D.2.2.1,a.1,a.2.1,())))) (W.bC (λ(D:Option dQ×Int×aX×Int×Int×Unit)=>A.pure (W.next (D.1,D.2.1,D.2.2.1,D.2.2.2.1,IntKind.wrap .i64 (Add.add D.2.2.2.2.1 1),())))) else A.bind (A.pure (W.next (a.1,()))) λr=>A.pure (W.done r)) (x.1,Option.getD x.2.1 0,Option.getD x.2.2 ([],[],[],[],0,0,0,0,0,0,0),0,0,())) (W.bC (λ(D:Int×Unit)=>A.pure (D.1,true)))
def WE(AI:Int->A Bool)(x:Option ea×Option Int):A Bool:=
 A.bind (AI (Option.getD x.2 0)) λy=>A.pure y
def WG(jx:Int×Int×Int->A Bool)(x:Int):A Bool:=
 A.bind (jx (x,0,99)) λy=>A.pure y
def WH(HW:pJ×Int->A Int)(N8:Option ea×Option dQ->A (List bz->Prop))(x:Option dQ×Option (Option ea)×Option Int×Option aX):A (Int×Bool):=
 A.bind (N8 (Option.getD x.2.1 none,x.1)) λy=>A.bind (A.any y) λL=>A.bind (jR (λ(D:Int×aX×Int×Unit) (y:aZ×Int)=>letI a:=(D.2.1.2.2.2.2,y.2);A.bind (if decide (y.1.2.2.2.2.2=D.1)=true then A.ae (HW a).cr (A.pure (di.normal,IntKind.wrap .i64 (Add.add D.2.2.1 (A.val (HW a) 0)),())) else A.pure (di.normal,D.2.2.1,())) λp=>A.pure (p.1,D.1,D.2.1,p.2.1,())) L (Option.getD x.2.2.1 0,Option.getD x.2.2.2 ([],[],[],[],0,0,0,0,0,0,0),0,())) λp=>sA (A.pure (p.2.2.2.1,true)) (λid=>if id=0 then A.pure (p.2.2.2.1,true) else A.fail) A.fail p.1
def akM(akN:Option (Option dQ)×Option (Option ea)->List bz->Prop)(x:Option ea×Option dQ):A (List bz->Prop):=
 A.pure (akN (some x.2,some x.1))
def WI(jx:Int×Int×Int->A Bool)(N9:List aZ×(Int×Int×Int×Int×Int×Int->A Bool)->A Bool)(akO:Int×Int×Int×Int×Int×Int×Int->A Bool)(NV:z1'×(Int->A Bool)->A Bool)(akP:aZ×Option aX->A Bool)(akQ:Int->A Bool)(x:aX):A Bool:=
 letI k:=Int.ofNat (List.length x.1);letI d:=decide (k > 3)||decide (Int.ofNat (List.length x.2.1) > 12)||decide (Int.ofNat (List.length x.2.2.1) > 12)||decide (Int.ofNat (List.length x.2.2.2.1) > 4);A.bind (cu (!d) (akO x.2.2.2.2) false) λy=>if (d||!y)=true then A.pure false else A.bind (A.loop (λ(D:z4'×Int×Int×aX×Unit)=>letI l:=D.2.2.1;letI e:=List.getD D.1 (Int.toNat l) (0,0);if decide (l<D.2.1)=true then A.ae (0<=l/\l<Int.ofNat (List.length D.1)) (A.bind (jx (e.1,-30,e.2)) (λy=>if (!y||decide (e.2 > 30))=true then A.bind (A.bind (A.pure false) (λr=>A.pure (W.done r))) λr=>A.pure (W.done r) else A.pure (W.next (D.1,D.2.1,IntKind.wrap .i64 (Add.add l 1),D.2.2.2.1,())))) else A.bind (A.pure (W.next (D.2.2.2.1,()))) λr=>A.pure (W.done r)) (x.1,k,0,x,())) (W.bC (λ(D:aX×Unit)=>A.bind (A.loop (λ(D:z4'×Int×Int×aX×Unit)=>letI m:=D.2.2.2.1;letI f:=D.2.2.1;letI j:=decide (f > 0);letI i:=IntKind.wrap .i64 (f-1);letI b:=List.getD D.1 (Int.toNat f) (0,0);letI a:=!(A.val (jx (b.1,0,b.2)) false)||decide (b.2 > 9999);letI h:=(!a)=true;letI c:=(!a&&j)=true;letI g:=c->c/\True/\True;if decide (f<D.2.1)=true then A.ae (0<=f/\f<Int.ofNat (List.length D.1)) (A.ae (jx (b.1,0,b.2)).cr (A.ae ((!(!(A.val (jx (b.1,0,b.2)) false)))=true->(!(!(A.val (jx (b.1,0,b.2)) false)))=true/\True/\True) (A.ae ((!(!(A.val (jx (b.1,0,b.2)) false)))=true->((!(!(A.val (jx (b.1,0,b.2)) false)))=true/\True)/\True/\True) (A.ae (True/\((!(A.val (jx (b.1,0,b.2)) false))=false->(!(!(A.val (jx (b.1,0,b.2)) false)))=true)) (A.ae (h->(h/\True)/\True/\True) (A.ae (h->True/\True/\h) (A.ae g (A.ae g (A.ae (c->(c/\True)/\True/\True) (A.ae (c->(c/\c)/\(0<=i/\i<Int.ofNat (List.length m.2.2.2.1))/\True) (A.ae g (A.ae g (A.ae (c->(c/\c)/\True/\True) (A.ae (h->(h/\(j=true->c))/\True/\True) (A.ae (True/\(a=false->h)) (if (a||j&&decide (b.1<=(List.getD m.2.2.2.1 (Int.toNat i) (0,0)).2))=true then A.bind (A.bind (A.pure false) (λr=>A.pure (W.done r))) λr=>A.pure (W.done r) else A.pure (W.next (D.1,D.2.1,IntKind.wrap .i64 (Add.add f 1),m,())))))))))))))))))) else A.bind (A.pure (W.next (m,()))) λr=>A.pure (W.done r)) (D.1.2.2.2.1,Int.ofNat (List.length D.1.2.2.2.1),0,D.1,())) (W.bC (λ(D:aX×Unit)=>A.bind (N9 (D.1.2.1,λx=>akP (x,some D.1))) λy=>A.bind (cu (!y) (NV (D.1.2.2.1,akQ)) false) λb2=>A.pure (!y&&!b2)))))
def akR(D7:(z1'->Prop)->A (z1'))(N_:List (Int×aZ)->A (z1'->Prop))(x:List aZ):A (List aZ×Bool):=
 A.bind (A.loop (λ(D:List aZ×Int×Int×List (Int×aZ)×Unit)=>letI e:=D.2.2;letI b:=List.getD D.1 (Int.toNat e.1) (0,0,0,0,0,0);letI c:=Option.map (λx=>x.2) (List.find? (λp=>decide (b.1=p.1)) e.2.1);letI a:=Option.getD c (0,0,0,0,0,0);if decide (e.1<D.2.1)=true then A.ae (0<=e.1/\e.1<Int.ofNat (List.length D.1)) (if (Option.isSome c&&!(decide (a.1=b.1)&&(decide (a.2.1=b.2.1)&&(decide (a.2.2.1=b.2.2.1)&&(decide (a.2.2.2.1=b.2.2.2.1)&&(decide (a.2.2.2.2.1=b.2.2.2.2.1)&&decide (a.2.2.2.2.2=b.2.2.2.2.2)))))))=true then A.bind (A.bind (A.pure ([],false)) (λr=>A.pure (W.done r))) λr=>A.pure (W.done r) else A.pure (W.next (D.1,D.2.1,IntKind.wrap .i64 (Add.add e.1 1),k1 e.2.1 b.1 b,()))) else A.bind (A.pure (W.next (e.2.1,()))) λr=>A.pure (W.done r)) (x,Int.ofNat (List.length x),0,[],())) (W.bC (λ(D:List (Int×aZ)×Unit)=>A.bind (A.bind (N_ D.1) (λy=>A.bind (D7 y) λy=>A.loop (λ(D:z1'×Int×Int×List aZ×List (Int×aZ)×Unit)=>letI d:=D.2.2;if decide (d.1<D.2.1)=true then A.ae (0<=d.1/\d.1<Int.ofNat (List.length D.1)) (A.ae (bQ (Add.add (List.length d.2.1) (Add.add 0 1))) (A.pure (W.next (D.1,D.2.1,IntKind.wrap .i64 (Add.add d.1 1),d.2.1++[Option.getD (Option.map (λx=>x.2) (List.find? (λp=>decide (List.getD D.1 (Int.toNat d.1) 0=p.1)) d.2.2.1)) (0,0,0,0,0,0)],d.2.2.1,())))) else A.bind (A.pure (W.next (d.2.1,()))) λr=>A.pure (W.done r)) (y,Int.ofNat (List.length y),0,[],D.1,()))) (W.bC (λ(D:List aZ×Unit)=>A.pure (D.1,true)))))
def WJ(ga:Int×Int×Int->A Bool)(akS:Int×Int×Int×Int×Int×Int×Int->A Bool)(WK:aX×Int×Int×Int×Int×Int×Int->A Bool)(x:aX):A Bool:=
 letI e:=decide (Int.ofNat (List.length x.1) > 3)||decide (Int.ofNat (List.length x.2.1) > 12)||decide (Int.ofNat (List.length x.2.2.1) > 12)||decide (Int.ofNat (List.length x.2.2.2.1) > 4);A.bind (cu (!e) (akS x.2.2.2.2) false) λy=>if (e||!y)=true then A.pure false else A.bind (A.loop (λ(D:Int×aX×Unit)=>letI f:=D.1<Int.ofNat (List.length D.2.1.1);letI o:=0<=D.1/\f;letI b:=List.getD D.2.1.1 (Int.toNat D.1) (0,0);if decide f=true then A.ae o (A.ae o (A.ae (ga (b.1,-30,b.2)).cr (A.ae ((!(!(A.val (ga (b.1,-30,b.2)) false)))=true->(!(!(A.val (ga (b.1,-30,b.2)) false)))=true/\True/\True) (A.ae ((!(!(A.val (ga (b.1,-30,b.2)) false)))=true->((!(!(A.val (ga (b.1,-30,b.2)) false)))=true/\(!(!(A.val (ga (b.1,-30,b.2)) false)))=true)/\o/\True) (A.ae ((!(!(A.val (ga (b.1,-30,b.2)) false)))=true->(!(!(A.val (ga (b.1,-30,b.2)) false)))=true/\True/\True) (A.ae ((!(!(A.val (ga (b.1,-30,b.2)) false)))=true->(!(!(A.val (ga (b.1,-30,b.2)) false)))=true/\True/\True) (A.ae ((!(!(A.val (ga (b.1,-30,b.2)) false)))=true->((!(!(A.val (ga (b.1,-30,b.2)) false)))=true/\True)/\True/\True) (A.ae (True/\((!(A.val (ga (b.1,-30,b.2)) false))=false->(!(!(A.val (ga (b.1,-30,b.2)) false)))=true)) (if (!(A.val (ga (b.1,-30,b.2)) false)||decide (b.2 > 30))=true then A.bind (A.bind (A.pure false) (λr=>A.pure (W.done r))) λr=>A.pure (W.done r) else A.pure (W.next (IntKind.wrap .i64 (Add.add D.1 1),D.2.1,()))))))))))) else A.bind (A.pure (W.next (D.2.1,()))) λr=>A.pure (W.done r)) (0,x,())) (W.bC (λ(D:aX×Unit)=>A.bind (A.loop (λ(D:Int×aX×Unit)=>letI m:=D.1<Int.ofNat (List.length D.2.1.2.1);letI h:=(D.2.1,List.getD D.2.1.2.1 (Int.toNat D.1) (0,0,0,0,0,0));if decide m=true then A.ae (0<=D.1/\m) (A.ae (WK h).cr (if (!(A.val (WK h) false))=true then A.bind (A.bind (A.pure false) (λr=>A.pure (W.done r))) λr=>A.pure (W.done r) else A.pure (W.next (IntKind.wrap .i64 (Add.add D.1 1),D.2.1,())))) else A.bind (A.pure (W.next (D.2.1,()))) λr=>A.pure (W.done r)) (0,D.1,())) (W.bC (λ(D:aX×Unit)=>A.bind (A.loop (λ(D:Int×aX×Unit)=>letI l:=D.1<Int.ofNat (List.length D.2.1.2.2.1);if decide l=true then A.ae (0<=D.1/\l) (A.bind (ga (List.getD D.2.1.2.2.1 (Int.toNat D.1) 0,0,99)) (λy=>if (!y)=true then A.bind (A.bind (A.pure false) (λr=>A.pure (W.done r))) λr=>A.pure (W.done r) else A.pure (W.next (IntKind.wrap .i64 (Add.add D.1 1),D.2.1,())))) else A.bind (A.pure (W.next (D.2.1,()))) λr=>A.pure (W.done r)) (0,D.1,())) (W.bC (λ(D:aX×Unit)=>A.bind (A.loop (λ(D:Int×aX×Unit)=>letI p:=D.2.1.2.2.2.1;letI n:=decide (D.1 > 0);letI k:=IntKind.wrap .i64 (D.1-1);letI g:=Int.ofNat (List.length p);letI c:=List.getD p (Int.toNat D.1) (0,0);letI a:=!(A.val (ga (c.1,0,c.2)) false)||decide (c.2 > 9999);letI j:=(!a)=true;letI d:=(!a&&n)=true;letI i:=d->d/\True/\True;if decide (D.1<g)=true then A.ae (0<=D.1/\D.1<g) (A.ae (ga (c.1,0,c.2)).cr (A.ae ((!(!(A.val (ga (c.1,0,c.2)) false)))=true->(!(!(A.val (ga (c.1,0,c.2)) false)))=true/\True/\True) (A.ae ((!(!(A.val (ga (c.1,0,c.2)) false)))=true->((!(!(A.val (ga (c.1,0,c.2)) false)))=true/\True)/\True/\True) (A.ae (True/\((!(A.val (ga (c.1,0,c.2)) false))=false->(!(!(A.val (ga (c.1,0,c.2)) false)))=true)) (A.ae (j->(j/\True)/\True/\True) (A.ae (j->True/\True/\j) (A.ae i (A.ae i (A.ae (d->(d/\True)/\True/\True) (A.ae (d->(d/\d)/\(0<=k/\k<g)/\True) (A.ae i (A.ae i (A.ae (d->(d/\d)/\True/\True) (A.ae (j->(j/\(n=true->d))/\True/\True) (A.ae (True/\(a=false->j)) (if (a||n&&decide (c.1<=(List.getD p (Int.toNat k) (0,0)).2))=true then A.bind (A.bind (A.pure false) (λr=>A.pure (W.done r))) λr=>A.pure (W.done r) else A.pure (W.next (IntKind.wrap .i64 (Add.add D.1 1),D.2.1,())))))))))))))))))) else A.bind (A.pure (W.next ())) λr=>A.pure (W.done r)) (0,D.1,())) (W.bC (λ(D:Unit)=>A.pure true))))))))
def WL(x:aZ×Int×Int×Int×Int×Int×Int):A Bool:=
 letI a:=decide (x.1.1=x.2.1);A.pure (a&&!(a&&(decide (x.1.2.1=x.2.2.1)&&(decide (x.1.2.2.1=x.2.2.2.1)&&(decide (x.1.2.2.2.1=x.2.2.2.2.1)&&(decide (x.1.2.2.2.2.1=x.dc)&&decide (x.1.2.2.2.2.2=x.2.2.2.2.2.2)))))))
def WM(lF:Int×Int×Int->A Bool)(x:Int×Int×Int):A Bool:=
 A.bind (lF x) λy=>A.pure y
def akT(D9:Int->A Bool)(x:Option ea×Option Int):A Bool:=
 A.bind (D9 (Option.getD x.2 0)) λy=>A.pure y
def WN(x:aX×Int×Int):A Int:=
 A.bind (A.loop (λ(D:Int×Int×Int×z4'×Int×Int×Unit)=>letI c:=D.2.2.2;letI b:=IntKind.wrap .i64 (D.2.1-1);letI a:=List.getD c.1 (Int.toNat D.dc) (0,0);if decide (D.dc<c.2.1)=true then A.ae (0<=D.dc/\D.dc<Int.ofNat (List.length c.1)) (A.pure (W.next (D.1,D.2.1,IntKind.wrap .i64 (D.2.2.1-(if IntKind.wrap .i64 (Add.add (IntKind.wrap .i64 ((if b<a.2 then b else a.2)-(if D.1 > a.1 then D.1 else a.1))) 1) > 0 then IntKind.wrap .i64 (Add.add (IntKind.wrap .i64 ((if b<a.2 then b else a.2)-(if D.1 > a.1 then D.1 else a.1))) 1) else 0)),c.1,c.2.1,IntKind.wrap .i64 (Add.add D.dc 1),()))) else A.bind (A.pure (W.next (D.2.2.1,()))) λr=>A.pure (W.done r)) (x.2.1,x.2.2,IntKind.wrap .i64 (x.2.2-x.2.1),x.1.2.2.2.1,Int.ofNat (List.length x.1.2.2.2.1),0,())) (W.bC (λ(D:Int×Unit)=>A.pure D.1))
def WO(x:z4'):A (z4'):=
 A.bind (A.any (λb=>b=true->x=[])) λy=>if y=true then A.pure [] else A.ae (bQ (Add.add 0 (List.length x))) (A.pure ([]++x))
def WQ(hP:z1'×Int->A Bool)(x:aZ×Option aX):A Bool:=
 A.bind (hP ((Option.getD x.2 ([],[],[],[],0,0,0,0,0,0,0)).2.2.1,x.1.1)) λy=>A.pure y
def WR(N9:List aZ×(Int×Int×Int×Int×Int×Int->A Bool)->A Bool)(akU:aZ×Option Int->A Bool)(x:Option ea×Option Int):A Bool:=
 A.ae (Option.isSome x.1=true) (A.bind (N9 ((Option.getD x.1 (([],[],[],[],0,0,0,0,0,0,0),[],[])).2.1,λhB=>akU (hB,some (Option.getD x.2 0)))) (λy=>A.pure y))
def akV(N':List aZ×(Int×Int×Int×Int×Int×Int->A Bool)->A Int)(x:List aZ×(Int×Int×Int×Int×Int×Int->A Bool)):A Bool:=
 A.bind (N' x) λy=>A.pure (decide (y>=0))
def akW(x:aZ×Option Int):A Bool:=
 A.pure (decide (x.1.1=Option.getD x.2 0)&&decide (x.1.2.2.2.1=1))
def WS(N8:Option ea×Option dQ->A (List bz->Prop))(x:Option dQ×Option (Option ea)×Option Int×Option (Int->A Int)):A (Int×Bool):=
 A.bind (N8 (Option.getD x.2.1 none,x.1)) λy=>A.bind (A.any y) λL=>A.bind (jR (λ(D:Int×(Int->A Int)×Int×Bool×Unit) (y:aZ×Int)=>A.bind (if decide (y.1.1=D.1)=true then A.bind (D.2.1 y.2) λy=>A.pure (di.ret,y,true,()) else A.pure (di.normal,D.2.2.1,D.2.2.2.1,())) λp=>A.pure (p.1,D.1,D.2.1,p.2.1,p.2.2.1,())) L (Option.getD x.2.2.1 0,Option.getD x.2.2.2 λx=>{ cr:=False,bM:=λx=>False },0,false,())) λp=>sA (A.pure (0,false)) (λid=>if id=0 then A.pure (0,false) else A.fail) (A.pure (p.2.2.2.1,p.2.2.2.2.1)) p.1
def WT(jx:Int×Int×Int->A Bool)(x:Int×Int×Int×Int×Int×Int×Int):A Bool:=
 A.bind (A.loop (λ(D:Int×Int×pJ×z1'×Unit)=>letI a:=D.2;if decide (a.1<D.1)=true then A.ae (0<=a.1/\a.1<Int.ofNat (List.length a.2.2.1)) (A.bind (jx (List.getD a.2.2.1 (Int.toNat a.1) 0,0,100000)) (λy=>if (!y)=true then A.bind (A.bind (A.pure false) (λr=>A.pure (W.done r))) λr=>A.pure (W.done r) else A.pure (W.next (D.1,IntKind.wrap .i64 (Add.add a.1 1),a.2.1,a.2.2.1,())))) else A.bind (A.pure (W.next (a.2.1,()))) λr=>A.pure (W.done r)) (Int.ofNat (Add.add (Add.add (Add.add (Add.add 0 1) 1) 1) 1),0,x,[x.2.2.1,x.2.2.2.1,x.dc,x.2.2.2.2.2.2],())) (W.bC (λ(D:pJ×Unit)=>A.bind (jx (D.1.1,0,9999)) λy=>A.bind (cu y (jx (D.1.2.1,1,9999)) false) λb2=>A.bind (cu (y&&b2) (jx (D.1.2.2.2.2.1,1,9999)) false) λdy=>A.pure (y&&b2&&dy)))
def WU(akX:aX×Int×Int×Int×Int×Int×Int->A Bool)(x:aZ×Option aX):A Bool:=
 A.bind (akX (Option.getD x.2 ([],[],[],[],0,0,0,0,0,0,0),x.1)) λy=>A.pure (!y)
def WV(jx:Int×Int×Int->A Bool)(AI:Int->A Bool)(x:aX×Int×Int×Int×Int×Int×Int):A Bool:=
 letI c:=x.2.2.2.2;letI a:=decide (c.1=1)||decide (c.1=2)&&decide (c.2.2=0);A.bind (cu a (AI x.2.1) false) λy=>A.bind (cu (a&&y) (AI c.2.2) false) λb2=>A.bind (cu (a&&y&&b2) (jx (x.2.2.1,0,IntKind.wrap .i64 (Int.ofNat (List.length x.1.1)-1))) false) λdy=>letI b:=a&&y&&b2&&dy;A.bind (cu b (jx (x.2.2.2.1,0,9999)) false) λfu=>A.bind (cu (b&&fu) (jx (x.dc,0,9)) false) λjW=>A.pure (b&&fu&&jW)
def WW(AI:Int->A Bool)(x:Int):A Bool:=
 A.bind (AI x) λy=>A.pure (!y)
def akY(akZ:Option (List (Int×aZ))->z1'->Prop)(x:List (Int×aZ)):A (z1'->Prop):=
 A.pure (akZ (some x))
def WX(ga:Int×Int×Int->A Bool)(x:Int×Int×Int×Int×Int×Int×Int):A Bool:=
 A.bind (ga (x.1,0,9999)) λy=>A.bind (cu y (ga (x.2.1,1,9999)) false) λb2=>A.bind (cu (y&&b2) (ga (x.2.2.2.2.1,1,9999)) false) λdy=>A.bind (cu (y&&b2&&dy) (ga (x.2.2.1,0,100000)) false) λfu=>letI a:=y&&b2&&dy&&fu;A.bind (cu a (ga (x.2.2.2.1,0,100000)) false) λjW=>A.bind (cu (a&&jW) (ga (x.dc,0,100000)) false) λqE=>A.bind (cu (a&&jW&&qE) (ga (x.2.2.2.2.2.2,0,100000)) false) λur=>A.pure (a&&jW&&qE&&ur)
def WY(ga:Int×Int×Int->A Bool)(x:aX×Int×Int×Int×Int×Int×Int):A Bool:=
 letI b:=x.2.2.2.2;A.bind (ga (x.2.1,0,99)) λy=>A.bind (cu (!(!y)) (ga (x.2.2.1,0,IntKind.wrap .i64 (Int.ofNat (List.length x.1.1)-1))) false) λb2=>A.bind (cu (!(!y||!b2)) (ga (x.2.2.2.1,0,9999)) false) λdy=>letI a:=!y||!b2||!dy;A.bind (cu (!a) (ga (x.dc,0,9)) false) λfu=>A.bind (cu (!(a||!fu)) (ga (b.2.2,0,99)) false) λjW=>if (a||!fu||!jW)=true then A.pure false else A.pure (decide (b.1=1)||decide (b.1=2)&&decide (b.2.2=0))
def WZ(ayo:Int->A Int)(ak0:Int->A Int)(x:Int):A Int:=
 A.bind (ak0 x) λy=>A.pure y
def ak1(x:List aZ×(Int×Int×Int×Int×Int×Int->A Bool)):A Int:=
 A.bind (A.loop (λ(D:List aZ×(Int×Int×Int×Int×Int×Int->A Bool)×Int×Int×Unit)=>letI a:=D.2.2.2.1;if decide (a<D.2.2.1)=true then A.ae (0<=a/\a<Int.ofNat (List.length D.1)) (A.bind (D.2.1 (List.getD D.1 (Int.toNat a) (0,0,0,0,0,0))) (λy=>if y=true then A.bind (A.bind (A.pure a) (λr=>A.pure (W.done r))) λr=>A.pure (W.done r) else A.pure (W.next (D.1,D.2.1,D.2.2.1,IntKind.wrap .i64 (Add.add a 1),())))) else A.bind (A.pure (W.next ())) λr=>A.pure (W.done r)) (x.1,x.2,Int.ofNat (List.length x.1),0,())) (W.bC (λ(D:Unit)=>A.pure (-1)))
def D_(x:Int):A Int:=
 A.bind (if decide (x>=4294967296)=true then A.ae ((0:Int)<=32) (A.pure (W.next (jl .u64 x 32,32,()))) else A.pure (W.next (x,0,()))) (W.bC (λ(D:Int×Int×Unit)=>A.bind (if decide (D.1>=65536)=true then A.ae ((0:Int)<=16) (A.pure (W.next (jl .u64 D.1 16,IntKind.wrap .i64 (Add.add D.2.1 16),()))) else A.pure (W.next (D.1,D.2.1,()))) (W.bC (λ(D:Int×Int×Unit)=>A.bind (if decide (D.1>=256)=true then A.ae ((0:Int)<=8) (A.pure (W.next (jl .u64 D.1 8,IntKind.wrap .i64 (Add.add D.2.1 8),()))) else A.pure (W.next (D.1,D.2.1,()))) (W.bC (λ(D:Int×Int×Unit)=>letI a:=IntKind.wrap .u8 D.1;A.ae (0<=a/\a<Int.ofNat 256) (A.pure (IntKind.wrap .i64 (Add.add D.2.1 (IntKind.wrap .i64 (Int.ofNat (List.getD ako (Int.toNat a) 0).1.1.1)))))))))))
def W0(x:z1'):A (z1'):=
 A.bind (A.any (λb=>b=true->x=[])) λy=>if y=true then A.pure [] else A.ae (bQ (Add.add 0 (List.length x))) (A.pure ([]++x))
def W1(ak2:Int×Int->A Int)(x:bz×aZ×Int):A Int:=
 A.bind (ak2 (x.1.2,x.2.2)) λy=>A.pure y
def W2(W3:Int->A Bool)(x:Int×Int):A Int:=
 A.bind (W3 x.1) λy=>A.bind (W3 x.2) λb2=>if y=true then if b2=true then A.pure 0 else A.pure (-1) else if b2=true then A.pure 1 else if decide (x.1<x.2)=true then A.pure (-1) else if decide (x.1 > x.2)=true then A.pure 1 else A.pure 0
def W4(x:Int):A Bool:=
 A.pure (decide (x≠x))
def W5(x:(z1'->Prop)×Unit):A (z1'×Unit):=
 A.bind (A.any x.1) λL=>A.bind (jR (λ(D:z1'×Unit) (y:Int)=>A.bind (A.ae (bQ (Add.add (List.length D.1) (Add.add 0 1))) (A.pure (di.normal,D.1++[y],()))) λp=>A.pure (p.1,p.2.1,())) L ([],())) λp=>sA (A.pure (p.2.1,())) (λid=>if id=0 then A.pure (p.2.1,()) else A.fail) A.fail p.1
def W6(ak3:(z1'->Prop)×Unit->A (z1'×Unit))(x:(z1'->Prop)×Unit):A (z1'×Unit):=
 A.bind (ak3 (x.1,())) λy=>A.pure (y.1,())
def W7(N':List aZ×(Int×Int×Int×Int×Int×Int->A Bool)->A Int)(x:(Int×Int×Int×Int×Int×Int->A Bool)×List aZ×Unit):A ((Nat×Nat)×List aZ×Unit):=
 A.bind (N' (x.2.1,x.1)) λy=>if decide (y=-1)=true then A.pure ((0,List.length x.2.1),x.2.1,()) else A.bind (A.loop (λ(D:(Int×Int×Int×Int×Int×Int->A Bool)×Int×Int×List aZ×Unit)=>letI g:=D.2.1;letI f:=D.2.2;letI e:=List.getD f.2.1 (Int.toNat f.1) (0,0,0,0,0,0);letI c:=Int.ofNat (List.length f.2.1);if decide (f.1<c)=true then A.bind (A.ae (0<=f.1/\f.1<c) (A.bind (D.1 e) (λy=>if (!y)=true then A.ae (0<=g/\g<c) (A.pure (W.next (D.1,IntKind.wrap .i64 (Add.add g 1),f.1,List.set f.2.1 (Int.toNat g) e,()))) else A.pure (W.next (D.1,g,f.1,f.2.1,()))))) (W.bC (λ(D:(Int×Int×Int×Int×Int×Int->A Bool)×Int×Int×List aZ×Unit)=>A.pure (W.next (D.1,D.2.1,IntKind.wrap .i64 (Add.add D.2.2.1 1),D.2.2.2.1,())))) else A.bind (A.pure (W.next (g,f.2.1,()))) λr=>A.pure (W.done r)) (x.1,y,IntKind.wrap .i64 (Add.add y 1),x.2.1,())) (W.bC (λ(D:Int×List aZ×Unit)=>letI d:=Int.toNat D.1;letI b:=Int.ofNat (List.length D.2.1);letI a:=List.take d D.2.1++List.replicate (Int.toNat b-d) (0,0,0,0,0,0)++List.drop (Add.add d (List.length (List.replicate (Int.toNat b-d) ((0,0,0,0,0,0):aZ)))) D.2.1;A.ae (0<=D.1/\D.1<=b/\b<=b) (A.ae True (A.ae ((0:Int)<=0/\0<=D.1/\D.1<=Int.ofNat (List.length a)) (A.pure ((Int.toNat 0,d),a,()))))))
def HX(AG:aX×Int×Int->A Int)(x:Nat×Option dQ×Option ea×(Nat×(List bz->Prop)×List bz×Bool)×Unit):A ((Nat×(List bz->Prop)×List bz×Bool)×Unit):=
 A.ae (Option.isSome x.2.1=true) (A.loop (λ(D:Nat×Option ea×List (List bz)×Int×(Nat×(List bz->Prop)×List bz×Bool)×Unit)=>letI g:=D.2.2.2;if decide (g.1<10)=true then A.bind (A.ae (0<=g.1/\g.1<Int.ofNat 10) (A.loop (λ(D:Nat×Option ea×List bz×Int×List (List bz)×Int×(Nat×(List bz->Prop)×List bz×Bool)×Unit)=>letI h:=D.fv;letI f:=D.2.2;letI d:=Int.ofNat (List.length f.1);letI i:=0<=f.2.1/\f.2.1<d;letI c:=IntKind.wrap .i64 (Add.add f.2.1 1);letI b:=List.getD f.1 (Int.toNat f.2.1) ((0,0,0,0,0,0),0);letI a:=((Option.getD D.2.1 (([],[],[],[],0,0,0,0,0,0,0),[],[])).1,b.2,(List.getD f.1 (Int.toNat c) ((0,0,0,0,0,0),0)).2);if decide (c<d)=true then A.ae i (A.ae (Option.isSome D.2.1=true) (A.ae i (A.ae (0<=c/\c<d) (A.ae (AG a).cr (A.bind (A.ae (D.1=h.1/\h.2.2.2=false/\(∃ (T:List bz),h.2.1 (h.2.2.1++(b.1,A.val (AG a) 0)::T))) (A.any (λx=>True))) (λy=>letI e:=(h.1,h.2.1,h.2.2.1++[(b.1,A.val (AG a) 0)],!y);if (!y)=true then A.bind (A.bind (A.bind (A.pure (e,())) (λr=>A.pure (W.done r))) (λr=>A.pure (W.done r))) λr=>A.pure (W.done r) else A.pure (W.next (D.1,D.2.1,f.1,IntKind.wrap .i64 (Add.add f.2.1 2),f.2.2.1,D.dc,e,())))))))) else A.bind (A.pure (W.next (D.1,D.2.1,f.2.2.1,D.dc,h,()))) λr=>A.pure (W.done r)) (D.1,D.2.1,List.getD D.2.2.1 (Int.toNat g.1) [],0,D.2.2.1,g.1,g.2.1,()))) (W.bC (λ(D:Nat×Option ea×List (List bz)×Int×(Nat×(List bz->Prop)×List bz×Bool)×Unit)=>A.pure (W.next (D.1,D.2.1,D.2.2.1,IntKind.wrap .i64 (Add.add D.2.2.2.1 1),D.2.2.2.2.1,())))) else A.bind (A.pure (g.2.1,())) λr=>A.pure (W.done r)) (x.1,x.2.2.1,(Option.getD x.2.1 ([],[[],[],[],[],[],[],[],[],[],[]])).2,0,x.2.2.2.1,()))
def W8(x:Int×Int×(bz×aZ×Int->A Int)×List bz×Unit):A (List bz×Unit):=
 A.loop (λ(D:Int×Int×(bz×aZ×Int->A Int)×Int×List bz×Unit)=>letI i:=D.2.2.2;if decide (i.1<D.2.1)=true then A.bind (A.loop (λ(D:Int×Int×(bz×aZ×Int->A Int)×Int×Int×List bz×Unit)=>letI k:=D.2.2;letI d:=Int.ofNat (List.length D.dc);letI c:=k.2.2.1;letI j:=0<=c/\c<d;letI g:=decide (c > D.1);letI f:=List.getD D.dc (Int.toNat c) ((0,0,0,0,0,0),0);letI b:=IntKind.wrap .i64 (c-1);letI e:=List.getD D.dc (Int.toNat b) ((0,0,0,0,0,0),0);letI h:=List.set D.dc (Int.toNat c) e;letI a:=g=true;letI l:=a->a/\True/\True;A.ae (a->(a/\a)/\j/\True) (A.ae l (A.ae (a->(a/\True)/\True/\True) (A.ae (a->(a/\a)/\(0<=b/\b<d)/\True) (A.ae l (A.ae (a->a/\a/\a/\True) (A.bind (cu g (k.1 (f,e)) 0) (λy=>if (g&&decide (y<0))=true then A.ae (0<=b/\b<d) (A.ae j (A.ae j (A.ae (0<=b/\b<Int.ofNat (List.length h)) (A.pure (W.next (D.1,D.2.1,k.1,k.2.1,b,List.set h (Int.toNat b) f,())))))) else A.bind (A.pure (W.next (D.1,D.2.1,k.1,k.2.1,D.dc,()))) λr=>A.pure (W.done r))))))))) (D.1,D.2.1,D.2.2.1,i.1,i.1,i.2.1,())) (W.bC (λ(D:Int×Int×(bz×aZ×Int->A Int)×Int×List bz×Unit)=>A.pure (W.next (D.1,D.2.1,D.2.2.1,IntKind.wrap .i64 (Add.add D.2.2.2.1 1),D.2.2.2.2.1,())))) else A.bind (A.pure (i.2.1,())) λr=>A.pure (W.done r)) (x.1,x.2.1,x.2.2.1,IntKind.wrap .i64 (Add.add x.1 1),x.2.2.2.1,())
def Oa(x:Nat×z4'×(Nat×(z1'->Prop)×z1'×Bool)×Unit):A ((Nat×(z1'->Prop)×z1'×Bool)×Unit):=
 A.bind (A.pure ()) λy=>A.loop (λ(D:Nat×(Nat×(z1'->Prop)×z1'×Bool)×(Option (Int×Int)×z4')×Unit)=>letI c:=D.2.1;letI b:=D.2.2.1;A.bind (Gx b.2) λy=>if Option.isSome y=true then A.bind (A.ae (Option.isSome (n2 b.1 b.2 y)=true) (A.pure ())) λb2=>A.bind (A.ae (D.1=c.1/\c.2.2.2=false/\(∃ (T:z1'),c.2.1 (c.2.2.1++Option.getD (Option.map (λx=>x.1) (n2 b.1 b.2 y)) 0::T))) (A.any (λx=>True))) λdy=>letI a:=(c.1,c.2.1,c.2.2.1++[Option.getD (Option.map (λx=>x.1) (n2 b.1 b.2 y)) 0],!dy);if (!dy)=true then A.bind (A.pure (a,())) λr=>A.pure (W.done r) else A.pure (W.next (D.1,a,(n2 b.1 b.2 y,CX b.2 y),())) else A.bind (A.pure (c,())) λr=>A.pure (W.done r)) (x.1,x.2.2.1,(none,x.2.1),())
def Ob(x:Nat×List (Int×aZ)×(Nat×(z1'->Prop)×z1'×Bool)×Unit):A ((Nat×(z1'->Prop)×z1'×Bool)×Unit):=
 A.bind (A.pure ()) λy=>A.loop (λ(D:Nat×(Nat×(z1'->Prop)×z1'×Bool)×(Option pJ×List (Int×aZ))×Unit)=>letI c:=D.2.1;letI b:=D.2.2.1;A.bind (Gx b.2) λy=>if Option.isSome y=true then A.bind (A.ae (Option.isSome (n2 b.1 b.2 y)=true) (A.pure ())) λb2=>A.bind (A.ae (D.1=c.1/\c.2.2.2=false/\(∃ (T:z1'),c.2.1 (c.2.2.1++Option.getD (Option.map (λx=>x.1) (n2 b.1 b.2 y)) 0::T))) (A.any (λx=>True))) λdy=>letI a:=(c.1,c.2.1,c.2.2.1++[Option.getD (Option.map (λx=>x.1) (n2 b.1 b.2 y)) 0],!dy);if (!dy)=true then A.bind (A.pure (a,())) λr=>A.pure (W.done r) else A.pure (W.next (D.1,a,(n2 b.1 b.2 y,CX b.2 y),())) else A.bind (A.pure (c,())) λr=>A.pure (W.done r)) (x.1,x.2.2.1,(none,x.2.1),())
def ak4(D7:(z1'->Prop)->A (z1'))(N_:List (Int×aZ)->A (z1'->Prop))(x:List aZ×Unit):A (Bool×List aZ×Unit):=
 A.bind (A.loop (λ(D:List aZ×Int×Int×List (Int×aZ)×Unit)=>letI e:=D.2.2;letI b:=List.getD D.1 (Int.toNat e.1) (0,0,0,0,0,0);letI c:=Option.map (λx=>x.2) (List.find? (λp=>decide (b.1=p.1)) e.2.1);letI a:=Option.getD c (0,0,0,0,0,0);if decide (e.1<D.2.1)=true then A.ae (0<=e.1/\e.1<Int.ofNat (List.length D.1)) (if (Option.isSome c&&!(decide (a.1=b.1)&&(decide (a.2.1=b.2.1)&&(decide (a.2.2.1=b.2.2.1)&&(decide (a.2.2.2.1=b.2.2.2.1)&&(decide (a.2.2.2.2.1=b.2.2.2.2.1)&&decide (a.2.2.2.2.2=b.2.2.2.2.2)))))))=true then A.bind (A.bind (A.pure (false,[],())) (λr=>A.pure (W.done r))) λr=>A.pure (W.done r) else A.pure (W.next (D.1,D.2.1,IntKind.wrap .i64 (Add.add e.1 1),k1 e.2.1 b.1 b,()))) else A.bind (A.pure (W.next (e.2.1,()))) λr=>A.pure (W.done r)) (x.1,Int.ofNat (List.length x.1),0,[],())) (W.bC (λ(D:List (Int×aZ)×Unit)=>A.bind (A.bind (N_ D.1) (λy=>A.bind (D7 y) λy=>A.loop (λ(D:z1'×Int×Int×List aZ×List (Int×aZ)×Unit)=>letI d:=D.2.2;if decide (d.1<D.2.1)=true then A.ae (0<=d.1/\d.1<Int.ofNat (List.length D.1)) (A.ae (bQ (Add.add (List.length d.2.1) (Add.add 0 1))) (A.pure (W.next (D.1,D.2.1,IntKind.wrap .i64 (Add.add d.1 1),d.2.1++[Option.getD (Option.map (λx=>x.2) (List.find? (λp=>decide (List.getD D.1 (Int.toNat d.1) 0=p.1)) d.2.2.1)) (0,0,0,0,0,0)],d.2.2.1,())))) else A.bind (A.pure (W.next (d.2.1,()))) λr=>A.pure (W.done r)) (y,Int.ofNat (List.length y),0,[],D.1,()))) (W.bC (λ(D:List aZ×Unit)=>A.pure (true,D.1,())))))
abbrev lG:Type:=List bz×List bz×List bz×List bz×List bz×List bz×List bz×List bz×List bz×List bz×hp
def mH:Nat->lG->List bz
 | 0,r=>r.1
 | 1,r=>r.2.1
 | 2,r=>r.2.2.1
 | 3,r=>r.2.2.2.1
 | 4,r=>r.2.2.2.2.1
 | 5,r=>r.2.2.2.2.2.1
 | 6,r=>r.2.2.2.2.2.2.1
 | 7,r=>r.2.2.2.2.2.2.2.1
 | 8,r=>r.2.2.2.2.2.2.2.2.1
 | 9,r=>r.2.2.2.2.2.2.2.2.2.1
 | _,_=>[]
def HY:Nat->List bz->lG->lG
 | 0,v,r=>(v,r.2)
 | 1,v,r=>(r.1,v,r.2.2)
 | 2,v,r=>(r.1,r.2.1,v,r.2.2.2)
 | 3,v,r=>(r.1,r.2.1,r.2.2.1,v,r.2.2.2.2)
 | 4,v,r=>(r.1,r.2.1,r.2.2.1,r.2.2.2.1,v,r.2.2.2.2.2)
 | 5,v,r=>(r.1,r.2.1,r.2.2.1,r.2.2.2.1,r.2.2.2.2.1,v,r.2.2.2.2.2.2)
 | 6,v,r=>(r.1,r.2.1,r.2.2.1,r.2.2.2.1,r.2.2.2.2.1,r.2.2.2.2.2.1,v,r.2.2.2.2.2.2.2)
 | 7,v,r=>(r.1,r.2.1,r.2.2.1,r.2.2.2.1,r.2.2.2.2.1,r.2.2.2.2.2.1,r.2.2.2.2.2.2.1,v,r.2.2.2.2.2.2.2.2)
 | 8,v,r=>(r.1,r.2.1,r.2.2.1,r.2.2.2.1,r.2.2.2.2.1,r.2.2.2.2.2.1,r.2.2.2.2.2.2.1,r.2.2.2.2.2.2.2.1,v,r.2.2.2.2.2.2.2.2.2)
 | 9,v,r=>(r.1,r.2.1,r.2.2.1,r.2.2.2.1,r.2.2.2.2.1,r.2.2.2.2.2.1,r.2.2.2.2.2.2.1,r.2.2.2.2.2.2.2.1,r.2.2.2.2.2.2.2.2.1,v,r.2.2.2.2.2.2.2.2.2.2)
 | _,_,r=>r
abbrev W9(r:lG):hp:=r.2.2.2.2.2.2.2.2.2.2
def Oc{X:Type}(l:List bz)(x:bz)(i k:Int)(aM B:A X):A X:=
 letI z:=decide (i > 0);letI y:=IntKind.wrap .i64 (i-1);letI n:=decide (x.1.2.2.2.1≠k);letI m:=(!n)=true;letI b:=(!n&&z)=true;letI c:=b->b/\True/\True;A.ae (m->(m/\True)/\True/\True) (A.ae (m->True/\True/\m) (A.ae c (A.ae (b->(b/\True)/\True/\True) (A.ae (b->(b/\b)/\(0<=y/\y<Int.ofNat (List.length l))/\True) (A.ae c (A.ae c (A.ae (b->(b/\b)/\True/\True) (A.ae (m->(m/\(z=true->b))/\True/\True) (A.ae (True/\(n=false->m)) (if (n||z&&decide (x.2=(List.getD l (Int.toNat y) ((0,0,0,0,0,0),0)).2))=true then aM else B))))))))))
def HZ(k:Nat)(D:Int×Int×Int×z1'×lG):A (W (Int×Int×Int×z1'×lG) (W (Int×z1'×lG) (W (z1'×lG) (Option dQ×Bool×hp)))):=
 letI i:=D.2.2.1;letI l:=mH k D.2.2.2.2;letI x:=List.getD l (Int.toNat i) ((0,0,0,0,0,0),0);if decide (i<D.2.1)=true then A.ae (0<=i/\i<Int.ofNat (List.length l)) (A.bind (A.ae ((2:Int)≠0) (if decide (Int.tmod i (2:Int)=1)=true then A.pure (W.next (i,2,D.1,D.2.1,i,x,D.2.2.2)) else A.pure (W.next (i,1,D.1,D.2.1,i,x,D.2.2.2)))) (W.bC (λ(bn:Int×Int×Int×Int×Int×bz×z1'×lG)=>letI r:=bn.2.2.2.2.2.2.2;Oc (mH k r) bn.2.2.2.2.2.1 bn.1 bn.2.1 (A.bind (A.bind (A.bind (A.pure (none,false,W9 r)) (λr=>A.pure (W.done r))) (λr=>A.pure (W.done r))) λr=>A.pure (W.done r)) (A.pure (W.next (bn.2.2.1,bn.2.2.2.1,IntKind.wrap .i64 (Add.add bn.2.2.2.2.1 1),bn.2.2.2.2.2.2)))))) else A.bind (A.pure (W.next (D.1,D.2.2.2))) λr=>A.pure (W.done r)
def D'(W_:(bz×aZ×Int->A Int)×List bz×Unit->A (List bz×Unit))(W':bz×aZ×Int->A Int):Nat->Nat->z1'×lG->A (W (z1'×lG) (Option dQ×Bool×hp))
 | 0,_,s=>A.pure (.next s)
 | n+1,k,s=>A.bind (A.ae (0<=Int.ofNat k/\Int.ofNat k<Int.ofNat 10) (A.bind (W_ (W',mH k s.2,())) (λy=>A.loop (HZ k) (Int.ofNat k,Int.ofNat (List.length y.1),0,s.1,HY k y.1 s.2)))) (W.bC (λ(bn:Int×z1'×lG)=>A.ae (IntKind.wrap .i64 (Add.add bn.1 1)=Int.ofNat (k+1)) (D' W_ W' n (k+1) bn.2)))
def H0{X:Type}(f:Nat->A X)(v:Int):Nat->A X
 | 0=>f 0
 | n+1=>if v=Int.ofNat (Add.add n 1) then f (n+1) else H0 f v n
def Xa{X:Type}(D:z1'×List aZ×Int×Int×z1'×lG)(u:Nat):A (W (z1'×List aZ×Int×Int×z1'×lG) X):=
 letI a:=List.getD D.2.1 (Int.toNat D.2.2.2.1) (0,0,0,0,0,0);letI r:=D.2.2.2.2.2;letI p:=0<=Int.ofNat u/\Int.ofNat u<Int.ofNat 10;A.ae True (A.ae p (A.ae (0<=a.2.1/\a.2.1<Int.ofNat (List.length D.1)) (A.ae (bQ (Add.add (List.length (mH u r)) (Add.add 0 1))) (A.ae True (A.ae p (A.pure (W.next (D.1,D.2.1,D.2.2.1,D.2.2.2.1,D.2.2.2.2.1,HY u (mH u r++[((a.1,a.2.1,a.2.2.1,a.2.2.2.1,Int.ofNat u,a.2.2.2.2.2),IntKind.wrap .i64 (Add.add a.2.2.1 (List.getD D.1 (Int.toNat a.2.1) 0)))]) r))))))))
def Xb(ak5:z1'->A (z1'))(ak6:(bz×aZ×Int->A Int)×List bz×Unit->A (List bz×Unit))(ak7:bz×aZ×Int->A Int)(x:z1'×hp):A (Option dQ×Bool×hp):=
 A.bind (A.bind (ak5 x.1) (λy=>A.pure (W.next (x.1,y,x.2.1,x.2.2.1,x.2.2.2.1,x.2.2.2.2.1,x.dc,x.fv,x.gR,x.iz,x.jX,x.k2,x.hR,x.np,x.pK,[],[],[],[],[],[],[],[],[],[],())))) (W.bC (λ(D:z1'×z1'×z4'×List aZ×z1'×z4'×Int×Int×Int×Int×Int×Int×Int×List aZ×List (Option dQ)×List bz×List bz×List bz×List bz×List bz×List bz×List bz×List bz×List bz×List bz×Unit)=>A.bind (A.ae True (A.loop (λ(D:z1'×List aZ×Int×Int×z1'×lG)=>letI a:=List.getD D.2.1 (Int.toNat D.2.2.2.1) (0,0,0,0,0,0);letI u:=a.2.2.2.2.1;if decide (D.2.2.2.1<D.2.2.1)=true then A.bind (A.ae (0<=D.2.2.2.1/\D.2.2.2.1<Int.ofNat (List.length D.2.1)) (A.ae (0<=u/\u<Int.ofNat 10) (H0 (Xa D) u 9))) (W.bC (λ(D:z1'×List aZ×Int×Int×z1'×lG)=>A.pure (W.next (D.1,D.2.1,D.2.2.1,IntKind.wrap .i64 (Add.add D.2.2.2.1 1),D.2.2.2.2)))) else A.bind (A.pure (W.next D.2.2.2.2)) λr=>A.pure (W.done r)) (D.1,D.pK,Int.ofNat (List.length D.pK),0,D.2.1,D.yb,D.N1,D.D2,D.D3,D.D4,D.N2,D.N3,D.akp,D.rI,D.D5,D.2.2.1,D.2.2.2.1,D.2.2.2.2.1,D.dc,D.fv,D.gR,D.iz,D.jX,D.k2,D.hR,D.np,D.pK,D.sT,()))) (W.bC (λ(D:z1'×lG)=>A.bind (A.ae True (A.ae (0=Int.ofNat 0) (D' ak6 ak7 10 0 D))) (W.bC (λ(D:z1'×lG)=>A.pure (some (D.1,[mH 0 D.2,mH 1 D.2,mH 2 D.2,mH 3 D.2,mH 4 D.2,mH 5 D.2,mH 6 D.2,mH 7 D.2,mH 8 D.2,mH 9 D.2]),true,W9 D.2)))))))
def Xc(ak8:Int×Int×(bz×aZ×Int->A Int)×List bz×Unit->A (List bz×Unit))(x:Int×Int×Int×(bz×aZ×Int->A Int)×List bz×Unit):A (List bz×Unit):=
 A.loop (λ(D:Int×Int×Int×(bz×aZ×Int->A Int)×Bool×Bool×List bz×Unit)=>if decide (IntKind.wrap .i64 (D.2.1-D.1)<=12)=true then A.bind (ak8 (D.1,D.2.1,D.2.2.2.1,D.fv,())) λy=>A.bind (A.pure (y.1,())) λr=>A.pure (W.done r) else A.fail) (x.1,x.2.1,x.2.2.1,x.2.2.2.1,true,true,x.2.2.2.2.1,())
def Xd(N6:z1'×hp->A (hp))(ak9:z1'×hp->A (Option dQ×Bool×hp))(x:z1'×hp):A (hp):=
 letI d:=Int.ofNat (List.length x.2.1);letI a:=Int.ofNat (List.length x.1);A.ae True (if decide (a=d)=true then A.bind (A.bind (ak9 (x.1,x.2.1,x.2.2.1,x.2.2.2.1,x.2.2.2.2.1,x.dc,x.fv,x.gR,x.iz,x.jX,x.k2,x.hR,x.np,x.pK,())) (λy=>if y.2.1=true then A.ae True (A.ae (bQ (Add.add (List.length y.sT) (Add.add 0 1))) (A.ae True (A.pure (W.next (y.2.2.1,y.2.2.2.1,y.2.2.2.2.1,y.dc,y.fv,y.gR,y.iz,y.jX,y.k2,y.hR,y.np,y.pK,y.sT++[y.1],()))))) else A.pure (W.next (y.2.2.1,y.2.2.2.1,y.2.2.2.2.1,y.dc,y.fv,y.gR,y.iz,y.jX,y.k2,y.hR,y.np,y.pK,y.sT,())))) (W.bC (λ(D:hp)=>A.pure (D.1,D.2.1,D.2.2.1,D.2.2.2.1,D.2.2.2.2.1,D.dc,D.fv,D.gR,D.iz,D.jX,D.k2,D.hR,D.np,()))) else A.ae True (A.ae (0<=a/\a<d) (A.loop (λ(D:z1'×Int×Int×hp)=>letI c:=D.2.2;letI b:=D.2.1;letI e:=List.take (Int.toNat b) D.1;A.ae True (A.ae (0<=b/\b<Int.ofNat (List.length c.2.1)) (if decide (c.1<=(List.getD c.2.1 (Int.toNat b) (0,0)).2)=true then A.ae ((0:Int)<=0/\0<=b/\b=b/\b<=Int.ofNat (List.length D.1)) (A.ae (0<Add.add 0 1/\bQ (Add.add (List.length e) (Add.add 0 1))) (A.bind (N6 (e++[c.1],c.2.1,c.2.2.1,D.dc,D.fv,D.gR,D.iz,D.jX,D.k2,D.hR,D.np,D.pK,D.sT,D.yb,())) (λy=>A.pure (W.next (D.1,b,IntKind.wrap .i64 (Add.add c.1 1),y.1,y.2.1,y.2.2.1,y.2.2.2.1,y.2.2.2.2.1,y.dc,y.fv,y.gR,y.iz,y.jX,y.k2,y.hR,y.np,()))))) else A.bind (A.pure (c.2.1,c.2.2.1,D.dc,D.fv,D.gR,D.iz,D.jX,D.k2,D.hR,D.np,D.pK,D.sT,D.yb,())) λr=>A.pure (W.done r)))) (x.1,a,(List.getD x.2.1 (Int.toNat a) (0,0)).1,x.2.1,x.2.2.1,x.2.2.2.1,x.2.2.2.2.1,x.dc,x.fv,x.gR,x.iz,x.jX,x.k2,x.hR,x.np,x.pK,()))))
def Xe(ak_:Int->A Int)(ak':Int×Int×Int×(bz×aZ×Int->A Int)×List bz×Unit->A (List bz×Unit))(x:(bz×aZ×Int->A Int)×List bz×Unit):A (List bz×Unit):=
 letI a:=Int.ofNat (List.length x.2.1);A.bind (ak_ (IntKind.wrap .u64 a)) λy=>A.bind (ak' (0,a,y,x.1,x.2.1,())) λy=>A.pure (y.1,())
end Go.Fer.H
namespace Go.Fer.H
open A (W)
abbrev bp:ad:=.int .i64
abbrev dj:ad:=.bool
abbrev fR:ad:=.slice bp
abbrev mI:ad:=.st (.aB bp bp)
abbrev Od:ad:=.st (.aB bp (.aB bp (.aB bp (.aB bp (.aB bp (.aB bp bp))))))
abbrev iA:ad:=.st (.aB (.slice mI) (.aB (.slice hq) (.aB fR (.aB (.slice mI) Od))))
abbrev H2:ad:=.st (.aB hq bp)
abbrev yc:ad:=.st (.aB fR (.array 10 (.slice H2)))
abbrev sV:ad:=.st (.aB iA (.aB (.slice hq) (.slice (.bG yc))))
attribute [simp] qC Vv vN A.dF A.Fv A.Rp A.gQ A.fG A.od A.je A.lE A.b7 A.pG cp hO Vu W.ho
section
variable {an:Type}
def yd(d:an)(x:List an×(an->A Bool)):A Int:=
 A.bind (A.loop (λ(D:List an×(an->A Bool)×Int×Int×Unit)=>if decide (D.2.2.2.1<D.2.2.1)=true then A.ae (0<=D.2.2.2.1/\
 D.2.2.2.1<Int.ofNat (List.length D.1)) (A.bind (D.2.1 (List.getD D.1 (Int.toNat D.2.2.2.1) d)) λy=>if y=true then A.bind (A.bind (A.pure
 D.2.2.2.1) λr=>A.pure (W.done r)) λr=>A.pure (W.done r) else A.pure (W.next (D.1,D.2.1,D.2.2.1,IntKind.wrap .i64 (Add.add
 D.2.2.2.1 1),()))) else A.bind (A.pure (W.next ())) λr=>A.pure (W.done r)) (x.1,x.2,Int.ofNat (List.length x.1),0,())) (W.bC λ(D
 : Unit)=>A.pure (-1))
def Ea(c:List an×(an->A Bool)->A Int)(x:List an×(an->A Bool)):A Bool:=A.bind (c x) λy=>A.pure (decide (y>=0))
def hS(p:an->Bool):List an->Int->Int
 | [],_=>-1
 | x::l,i=>if p x=true then i else hS p l (i+1)
theorem AJ(p:an->Bool):∀ (l:List an) (i:Int),0<=i->(decide (hS p l i>=0))=l.any p
 | [],i,_=>by rfl
 | x::l,i,h=>by
  simp only[hS,List.any_cons];by_cases ai:p x=true
  ·grind
  ·have:=AJ p l (i+1) (by omega);grind
theorem AK(p:an->Bool):∀ (l:List an) (i:Int),e1 (λx (i:Int)=>if p x=true then (.done (.done i):W Int (W Unit Int)) else .next (i+1)) (λ_=>.next ()) l i=if l.any p=true then .done (hS p l i) else .next ()
 | [],i=>by rfl
 | x::l,i=>by
  simp only[e1,List.any_cons,hS];by_cases ai:p x=true
  ·grind
  ·have:=AK p l (i+1);grind
theorem Eb{p:an->Bool}:∀ (l:List an) (i:Int),¬l.any p=true->hS p l i=-1
 | [],_,_=>rfl
 | x::l,i,ax=>by
  simp only[List.any_cons,Bool.or_eq_true,not_or]at ax;simp only[hS,ax.1,Bool.false_eq_true,if_false];exact Eb l _ ax.2
theorem Oe(d:an)(l:List an)(f:an->A Bool)(h:l.length<2 ^ 63)(ao:∀ y∈l,∃ b,f y=A.pure b):yd d (l,f)=A.pure (hS (λy=>(f y).val false) l 0):=by
 unfold yd;rw[A.f_ l (λi (b:Int)=>(l,f,(l.length:Int),b,())) (λy (i:Int)=>if (f y).val false=true then (.done (.done i):W Int (W Unit Int)) else .next (i+1)) (λ_=>.next ()) (λi b=>b=(i:Int)) 0 ?_ ?_ ?_ ?_]
 ·rw[AK (λy=>(f y).val false)];by_cases a_:(l.any λy=>(f y).val false)=true
  ·simp[a_]
  ·have:hS (λy=>(f y).val false) l 0=-1:=by
    have:∀ (l:List an) (i:Int),¬(l.any λy=>(f y).val false)=true->hS (λy=>(f y).val false) l i=-1:=by
     intro l;induction l with
     | nil=>intro i _;rfl
     | cons x l aL=>
      intro i ax;simp only[List.any_cons,Bool.or_eq_true,not_or]at ax;simp only[hS,ax.1,Bool.false_eq_true,if_false];grind
    grind
   simp[a_,this]
 ·rfl
 ·rfl
 ·intro i G b aa;subst aa;have hw:=bF (n:=(i:Int)+1) (by omega) (by omega);refine⟨?_,λbe cY=>?_⟩
  ·obtain⟨b,aa⟩:=ao _ (List.getElem_mem G);simp only[bZ,cX G,if_true,dk G,cP G,A.br,aa,A.fG,A.aK,cp,hw];split<;>rfl
  grind
 simp
end
abbrev k4(e:ad):aO:=⟨.aB (.slice e) (.fn e .bool),bp,λx=>x.1.length<2 ^ 63/\∀ y∈x.1,∃ b,x.2 y=A.pure b,λx=>hS (λy=>(x.2 y).val false) x.1 0⟩
theorem sW(e:ad)(x):A.le (yd e.df x) ((k4 e).sh x):=A.bw λh=>Oe e.df x.1 x.2 h.1 h.2
abbrev jf(e:ad):aO:=⟨.aB (.slice e) (.fn e .bool),dj,λx=>x.1.length<2 ^ 63/\∀ y∈x.1,∃ b,x.2 y=A.pure b,λx=>x.1.any λy=>(x.2 y).val false⟩
theorem sX(e:ad)(x):A.le (Ea (k4 e).sh x) ((jf e).sh x):=A.bw λh=>by
 unfold Ea;simp only[aO.sh,k4,A.dF];rw[A.bq (by exact h)];exact congrArg A.pure (AJ (λy=>(x.2 y).val false) x.1 0 (by omega))
abbrev lH(s:aZ):Int:=s.1
abbrev pL(s:aZ):Int:=s.2.1
abbrev ye(s:aZ):Int:=s.2.2.1
abbrev en(s:aZ):Int:=s.2.2.2.1
abbrev uv(s:aZ):Int:=s.2.2.2.2.1
abbrev iQ(s:aZ):Int:=s.2.2.2.2.2
def jE(c:aX):Prop:=c.1.length<2 ^ 63/\c.2.1.length<2 ^ 63/\c.2.2.1.length<2 ^ 63/\c.2.2.2.1.length<2 ^ 63
def bX(n a1 G:Int):Bool:=decide (a1<=n)&&decide (n<=G)
theorem lI{n a1 G:Int}:bX n a1 G=true<->a1<=n/\n<=G:=by simp[bX]
def pM(t:pJ):Bool:=bX t.1 0 9999&&bX t.2.1 1 9999&&bX t.2.2.2.2.1 1 9999&&bX t.2.2.1 0 100000&&bX t.2.2.2.1 0 100000&&bX t.2.2.2.2.2.1 0 100000&&bX t.2.2.2.2.2.2 0 100000
def k5(n:Nat)(s:aZ):Bool:=bX (lH s) 0 99&&bX (pL s) 0 ((n:Int) - 1)&&bX (ye s) 0 9999&&bX (uv s) 0 9&&bX (iQ s) 0 99&&(decide (en s=1)||decide (en s=2)&&decide (iQ s=0))
abbrev cq:aO:=⟨.aB bp (.aB bp bp),dj,λ_=>True,λx=>bX x.1 x.2.1 x.2.2⟩
theorem ala(x):A.le (WM cq.sh x) (cq.sh x):=A.bw λ_=>by
 unfold WM;simp[aO.sh,cq]
theorem alb(x):A.le (akF x) (cq.sh x):=A.bw λ_=>rfl
abbrev yf:aO:=⟨bp,dj,λ_=>True,λx=>bX x 0 9999⟩
theorem alc(x):A.le (Wv cq.sh x) (yf.sh x):=A.bw λ_=>by
 unfold Wv;simp[aO.sh,cq]
abbrev vT:aO:=⟨bp,dj,λ_=>True,λx=>bX x 0 99⟩
theorem ald(x):A.le (WG cq.sh x) (vT.sh x):=A.bw λ_=>by
 unfold WG;simp[aO.sh,cq]
abbrev vU:aO:=⟨Od,dj,λ_=>True,λx=>pM x⟩
theorem ale(x):A.le (WX cq.sh x) (vU.sh x):=A.bw λ_=>by
 unfold WX;show _=A.pure (pM x);unfold pM;simp only[aO.sh,cq,A.nP,A.aK,A.lE];simp
theorem alf(x):A.le (WT cq.sh x) (vU.sh x):=A.bw λ_=>by
 unfold WT;rw[A.ed [x.2.2.1,x.2.2.2.1,x.2.2.2.2.2.1,x.2.2.2.2.2.2] (λi (_:Unit)=>(4,(i:Int),x,[x.2.2.1,x.2.2.2.1,x.2.2.2.2.2.1,x.2.2.2.2.2.2],())) (λy b=>if (!bX y 0 100000)=true then .done (.done false) else .next b) (λ_=>.next (x,())) () ?_ ?_ ?_]
 ·rw[kZ (q:=λy=>bX y 0 100000) _ _ (λ_=>rfl)];show _=A.pure (pM x);unfold pM;simp only[List.all_cons,List.all_nil,Bool.and_true,aO.sh,cq,A.nP,A.aK,A.lE];cases E:bX x.1 0 9999<;>cases U:bX x.2.1 1 9999<;>cases ah:bX x.2.2.2.2.1 1 9999<;>cases bX x.2.2.1 0 100000<;>cases bX x.2.2.2.1 0 100000<;>cases bX x.2.2.2.2.2.1 0 100000<;>cases bX x.2.2.2.2.2.2 0 100000<;>simp[E,U,ah]
 ·rfl
 ·intro i G b;have dM:i<4:=by omega
  have hw:=bF (n:=(i:Int)+1) (by omega) (by omega);have E:decide ((i:Int)<4)=true:=by grind
  simp only[E,if_true,bZ,dk G,cP G,A.br,aO.sh,cq,A.nP,A.aK,cp,hw];exact nn (mk:=λ(_:Unit)=>((4:Int),((i+1:Nat):Int),x,[x.2.2.1,x.2.2.2.1,x.2.2.2.2.2.1,x.2.2.2.2.2.2],()))
 simp
abbrev vV:aO:=⟨.aB iA hq,dj,λx=>x.1.1.length<2 ^ 63,λx=>k5 x.1.1.length x.2⟩
theorem alg(x):A.le (WY cq.sh x) (vV.sh x):=A.bw λh=>by
 have hw:=bF (n:=(x.1.1.length:Int) - 1) (by omega) (by omega);unfold WY;show _=A.pure (k5 x.1.1.length x.2);unfold k5;simp only[aO.sh,cq,A.nP,A.aK,A.lE,bZ,hw];grind
theorem alh(x):A.le (WV cq.sh vT.sh x) (vV.sh x):=A.bw λh=>by
 have hw:=bF (n:=(x.1.1.length:Int) - 1) (by omega) (by omega);unfold WV;show _=A.pure (k5 x.1.1.length x.2);unfold k5;simp only[aO.sh,cq,vT,A.nP,A.aK,A.lE,bZ,hw];grind
abbrev Ec:aO:=⟨.aB hq (.bG iA),dj,λx=>∃ c:aX,x.2=some c/\c.1.length<2 ^ 63,λx=>!k5 (x.2.getD ([],[],[],[],0,0,0,0,0,0,0)).1.length x.1⟩
theorem ali(x):A.le (WU vV.sh x) (Ec.sh x):=A.bw λh=>by
 obtain⟨s,o⟩:=x;obtain⟨c,hc,h⟩:=h;change o=some c at hc;subst hc;unfold WU;simp only[Option.getD_some,aO.sh,vV,A.dF];simp_all
abbrev AL:aO:=⟨bp,dj,λ_=>True,λx=>!bX x 0 99⟩
theorem alj(x):A.le (WW vT.sh x) (AL.sh x):=A.bw λ_=>by
 unfold WW;simp[aO.sh,vT]
theorem Xf(a b:aZ):(decide (a.1=b.1)&&(decide (a.2.1=b.2.1)&&(decide (a.2.2.1=b.2.2.1)&&(decide (a.2.2.2.1=b.2.2.2.1)&&(decide (a.2.2.2.2.1=b.2.2.2.2.1)&&decide (a.2.2.2.2.2=b.2.2.2.2.2))))))=decide (a=b):=by
 grind
def uw(a b:aZ):Bool:=decide (lH a=lH b)&&!decide (a=b)
abbrev H3:aO:=⟨.aB hq hq,dj,λ_=>True,λx=>uw x.1 x.2⟩
theorem alk(x):A.le (WL x) (H3.sh x):=A.bw λ_=>by
 have h:=Xf x.1 x.2;unfold WL;show _=A.pure (uw x.1 x.2);unfold uw;grind
abbrev o2:aO:=⟨.aB fR bp,dj,λx=>x.1.length<2 ^ 63,λx=>x.1.contains x.2⟩
theorem alm(x):A.le (ak1 x) ((k4 hq).sh x):=sW hq x
theorem aln(x):A.le (akV (k4 hq).sh x) ((jf hq).sh x):=sX hq x
abbrev o3:aO:=⟨fR,fR,λx=>x.length<=3000000,λx=>x⟩
theorem fw{n:Nat}(h:n<65536):bQ n:=by unfold bQ;omega
theorem alo(x):A.le (W0 x) (o3.sh x):=A.sP λh=>by
 unfold W0;rw[A.gb];refine⟨⟨false,by simp⟩,λb aa=>?_⟩;change b=true->x=[]at aa;cases b with
 | true=>rw[aa rfl];exact A.eb.2 rfl
 | false=>
  simp only[Bool.false_eq_true,if_false];exact A.kP.2 ⟨by change List.length x<=3000000 at h;simp only[hO,bQ];omega,A.eb.2 (by simp)⟩
abbrev H4(c:aX):Prop:=c.1.length<=20/\c.2.1.length<=40/\c.2.2.1.length<=60/\c.2.2.2.1.length<=40
abbrev vW:aO:=⟨iA,iA,H4,λx=>x⟩
theorem Of(x):A.le (Wk x) (vW.sh x):=A.bw λh=>by
 obtain⟨E,U,ah,a6⟩:=h;unfold Wk;rw[A.bq (fw (by grind)),A.bq (fw (by grind)),A.bq (fw (by grind)),A.bq (fw (by grind))];simp
abbrev H5:aO:=⟨bp,dj,λ_=>True,λ_=>false⟩
theorem alp(x):A.le (W4 x) (H5.sh x):=A.bw λ_=>by simp[W4]
abbrev H6:aO:=⟨.aB bp bp,bp,λ_=>True,λx=>if x.1<x.2 then -1 else if x.1 > x.2 then 1 else 0⟩
theorem alq(x):A.le (W2 H5.sh x) (H6.sh x):=A.bw λ_=>by
 unfold W2;simp only[aO.sh,H5,A.nP,A.aK,Bool.false_eq_true,if_false,decide_eq_true_eq];grind
abbrev mb:aO:=⟨.aB H2 H2,bp,λ_=>True,λx=>if x.1.2<x.2.2 then -1 else if x.1.2 > x.2.2 then 1 else 0⟩
theorem alr(x):A.le (W1 H6.sh x) (mb.sh x):=A.bw λ_=>by
 unfold W1;simp only[aO.sh,H6,A.nP,A.aK]
abbrev Og:aO:=⟨.int .u64,bp,λx=>0<=x/\x<=12,λx=>(D_ x).val 0⟩
theorem als(x):A.le (D_ x) (Og.sh x):=A.bw λh=>by
 have key:∃ v,D_ x=A.pure v:=by
  change Int at x;change (0:Int)<=x/\x<=12 at h;unfold D_;have az:¬(x>=4294967296):=by omega
  have aN:¬(x>=65536):=by omega
  have cL:¬(x>=256):=by omega
  have ee:IntKind.wrap .u8 x=x:=by
   show (if (false&&decide (x % 2 ^ 8>=(2 ^ (8 - 1):Int)))=true then x % 2 ^ 8 - 2 ^ 8 else x % 2 ^ 8)=x;grind
  have jF:0<=x/\x<Int.ofNat 256:=⟨h.1,by grind⟩
  simp only[decide_eq_true_eq,az,aN,cL,if_false,A.aK,A.b7,ee,A.bq jF];grind
 obtain⟨v,af⟩:=key;simp_all
abbrev Oh:aO:=⟨.int .u64,bp,λx=>0<=x/\x<=12,λx=>(D_ x).val 0⟩
theorem alu(f)(x):A.le (WZ f Og.sh x) (Oh.sh x):=A.bw λh=>by
 unfold WZ;simp only[aO.sh,A.dF];simp_all
end Go.Fer.H
namespace Go.Fer.H
open A (W)
section
variable {an:Type} (d:an) (lt:an->an->Bool)
def vY(l:List an):Nat->List an
 | 0=>l
 | k+1=>if lt (l.getD (k+1) d) (l.getD k d)=true then vY ((l.set (k+1) (l.getD k d)).set k (l.getD (k+1) d)) k else l
def pN(e:an):List an->List an
 | []=>[e]
 | a::r=>if lt e a=true then a::pN e r else e::a::r
def ux(l:List an):List an:=l.foldl (λr e=>pN lt e r) []
def fx(l:List an):List an:=(ux lt l).reverse
theorem Xg:∀ (r:List an) (e:an) (R:List an),vY d lt (r.reverse++e::R) r.length=(pN lt e r).reverse++R
 | [],e,R=>rfl
 | a::r,e,R=>by
  have az:((a::r).reverse++e::R).getD (r.length+1) d=e:=by
   simp
  have aN:((a::r).reverse++e::R).getD r.length d=a:=by
   simp
  show vY d lt ((a::r).reverse++e::R) (r.length+1)=_;unfold vY;rw[az,aN];unfold pN;split
  ·have cL:(((a::r).reverse++e::R).set (r.length+1) a).set r.length e=r.reverse++e::(a::R):=by
    simp
   rw[cL,Xg r e (a::R)];simp
  ·simp
theorem Oi(e:an):∀ r:List an,(pN lt e r).Perm (e::r)
 | []=>.refl _
 | a::r=>by
  unfold pN;split
  ·exact ((Oi e r).cons a).trans (List.Perm.swap e a r)
  rfl
theorem Xh:∀ (l r:List an),(l.foldl (λr e=>pN lt e r) r).Perm (l++r)
 | [],r=>.refl _
 | x::l,r=>by
  simp only[List.foldl_cons];refine (Xh l _).trans ?_;refine ((Oi lt x r).append_left l).trans ?_;simp
theorem Xi(l:List an):(ux lt l).Perm l:=by
 have:=Xh lt l [];rwa [List.append_nil]at this
theorem Ed(l:List an):(fx lt l).Perm l:=(List.reverse_perm _).trans (Xi lt l)
theorem Xj(l:List an):(ux lt l).length=l.length:=(Xi lt l).length_eq
theorem H7(l:List an):(fx lt l).length=l.length:=(Ed lt l).length_eq
theorem Xk{l:List an}{x:an}:x∈fx lt l<->x∈l:=(Ed lt l).mem_iff
theorem alv(l:List an)(e:an):ux lt (l++[e])=pN lt e (ux lt l):=by simp[ux]
def qG(l:List an)(n:Nat):List an:=(ux lt (l.take n)).reverse++l.drop n
theorem alw(l:List an):qG lt l 1=l:=by
 cases l with
 | nil=>rfl
 | cons x l=>rfl
theorem alx(l:List an):qG lt l l.length=fx lt l:=by simp[qG,fx]
theorem aly(l:List an)(n:Nat)(h:n<=l.length):(qG lt l n).length=l.length:=by
 simp[qG,Xj,Nat.min_eq_left h];omega
theorem alz{l:List an}{n:Nat}(h:n<l.length):vY d lt (qG lt l n) n=qG lt l (n+1):=by
 have az:(ux lt (l.take n)).length=n:=by rw[Xj];grind
 have:=Xg d lt (ux lt (l.take n)) l[n] (l.drop (n+1));rw[az]at this;unfold qG;rw[List.drop_eq_getElem_cons h,this,List.take_add_one,List.getElem?_eq_getElem h,Option.toList_some,alv]
theorem Oj(ch:∀ a b,lt a b=false->lt b a=true\/lt b a=false)(aW:∀ a b c:an,lt a b=false->lt b c=false->lt a c=false)(Xl:∀ a b,lt a b=true->lt b a=false)(e:an):∀ r:List an,r.Pairwise (λa b=>lt a b=false)->(pN lt e r).Pairwise (λa b=>lt a b=false)
 | [],_=>by simp[pN]
 | a::r,h=>by
  rw[List.pairwise_cons]at h;unfold pN;split
  ·rename_i he;refine List.pairwise_cons.2 ⟨λx ai=>?_,Oj ch aW Xl e r h.2⟩;rcases List.mem_cons.1 ((Oi lt e r).mem_iff.1 ai) with rfl | ai
   ·exact Xl _ _ he
   ·exact h.1 x ai
  ·rename_i he;have he:lt e a=false:=by grind
   refine List.pairwise_cons.2 ⟨λx ai=>?_,List.pairwise_cons.2 h⟩;grind
end
def hs(a b:Int):Bool:=decide (a<b)
def h4(a b:bz):Bool:=decide (a.2<b.2)
theorem Xm:∀ (l r:z1'),r.Pairwise (λa b=>hs a b=false)->(l.foldl (λr e=>pN hs e r) r).Pairwise (λa b=>hs a b=false)
 | [],r,h=>h
 | x::l,r,h=>Xm l _ (Oj hs (λa b _=>by simp) (λa b c E U=>by simp[hs]at *;omega) (λa b h=>by simp[hs]at *;omega) x r h)
theorem Ol(l:z1'):(fx hs l).Pairwise (·<=·):=by
 have:=Xm l [] .nil;unfold fx;rw[List.pairwise_reverse];exact this.imp λh=>by simp[hs]at h;exact h
theorem Xn:∀ (l r:List bz),r.Pairwise (λa b=>h4 a b=false)->(l.foldl (λr e=>pN h4 e r) r).Pairwise (λa b=>h4 a b=false)
 | [],r,h=>h
 | x::l,r,h=>Xn l _ (Oj h4 (λa b _=>by simp) (λa b c E U=>by simp[h4]at *;omega) (λa b h=>by simp[h4]at *;omega) x r h)
theorem alA(l:List bz):(fx h4 l).Pairwise λa b=>a.2<=b.2:=by
 have:=Xn l [] .nil;unfold fx;rw[List.pairwise_reverse];exact this.imp λh=>by simp[h4]at h;exact h
theorem AM{l m:z1'}(h:m.Pairwise (·<=·))(aq:l.Perm m):fx hs l=m:=
 List.Perm.eq_of_pairwise (λa b _ _ E U=>by omega) (Ol l) h ((Ed hs l).trans aq)
theorem Xo{l m:z1'}(aq:l.Perm m):fx hs l=fx hs m:=AM (Ol m) (aq.trans (Ed hs m).symm)
theorem alB{an:Type}{d:an}{lt:an->an->Bool}{D aJ:Type}{body:D->A (W D aJ)}{s0:D}(mk:Nat->List an->D)(fin:List an->aJ)(hn:Nat)(fj:List an)(nl:s0=mk hn fj)(nd:hn<fj.length)
  (aD:∀ k l,l.length=fj.length->k<fj.length->body (mk k l)=A.pure (if 0<k/\lt (l.getD k d) (l.getD (k - 1) d)=true then .next (mk (k - 1) ((l.set k (l.getD (k - 1) d)).set (k - 1) (l.getD k d))) else .done (fin l))) :
  A.loop body s0=A.pure (fin (vY d lt fj hn)):=by
 subst nl;have key:∀ k l,l.length=fj.length->k<fj.length->A.loop body (mk k l)=A.pure (fin (vY d lt l k)):=by
  intro k;induction k with
  | zero=>
   intro l al ak;exact A.r6 (by rw[aD 0 l al ak,if_neg (by simp)];rfl)
  | succ k aL=>
   intro l al ak;unfold vY;by_cases h:lt (l.getD (k+1) d) (l.getD k d)=true
   ·rw[if_pos h,A.y_ (s':=mk k ((l.set (k+1) (l.getD k d)).set k (l.getD (k+1) d)))]
    ·exact aL _ (by simpa using al) (by omega)
    ·rw[aD (k+1) l al ak,if_pos ⟨by omega,h⟩];rfl
   ·rw[if_neg h];exact A.r6 (by grind)
 grind
theorem Om{an:Type}{l:List an}{d:an}{k:Nat}:l.getD ((k:Int) - 1).toNat d=l.getD (k - 1) d:=by
 simp
theorem Xp{an:Type}{l:List an}{d:an}{k:Nat}:l.getD ((k:Int)).toNat d=l.getD k d:=by rfl
theorem alC{D aJ:Type}{c:Bool}{p:Prop}[Decidable p](h:c=decide p){x y:A (W D aJ)}{a b:W D aJ}(E:p->x=A.pure a)(U:¬p->y=A.pure b):(if c=true then x else y)=A.pure (if p then a else b):=by
 grind
def H8(x:Int×Int×(bz×aZ×Int->A Int)×List bz×Unit):A (List bz×Unit):=A.dR (x.1=0/\x.2.1=(x.2.2.2.1.length:Int)/\x.2.2.2.1.length<=12/\x.2.2.1=mb.sh) (fx h4 x.2.2.2.1,())
theorem alD(x):A.le (W8 x) (H8 x):=A.bw λh=>by
 obtain⟨a,b,f,l,u⟩:=x;obtain⟨E,U,ah,a6⟩:=h;change a=0 at E;change b=(l.length:Int) at U;change l.length<=12 at ah;change f=mb.sh at a6;subst E;subst U;subst a6;unfold W8;rw[A.ed (List.range (l.length - 1)) (λi (_:Unit)=>(0,(l.length:Int),mb.sh,((i+1:Nat):Int),qG h4 l (i+1),())) (λ_ _=>.next ()) (λ_=>(fx h4 l,())) () ?_ ?_ ?_]
 ·rw[eL]
 ·show (0,(l.length:Int),mb.sh,IntKind.wrap .i64 (Add.add 0 1),l,())=(0,(l.length:Int),mb.sh,((0+1:Nat):Int),qG h4 l (0+1),())
  rw[alw];rfl
 ·intro i G _;have G:i+1<l.length:=by grind
  have al:=aly h4 l (i+1) (by omega);have hw:=bF (n:=((i+1:Nat):Int)+1) (by omega) (by omega);have au:decide (((i+1:Nat):Int)<(l.length:Int))=true:=by grind
  simp only[au,if_true];rw[alB (d:=((0,0,0,0,0,0),0)) (lt:=h4) (λk m=>(0,(l.length:Int),mb.sh,((i+1:Nat):Int),(k:Int),m,())) (λm=>.next (0,(l.length:Int),mb.sh,((i+1:Nat):Int),m,())) (i+1) (qG h4 l (i+1)) rfl (by omega) ?_]
  ·simp only[A.aK,A.b7,cp,hw,alz ((0,0,0,0,0,0),0) h4 G];rfl
  ·intro k m hm ak;have gZ:0<k->IntKind.wrap .i64 ((k:Int) - 1)=(k:Int) - 1:=λ_=>bF (by omega) (by omega);by_cases nd:0<k
   ·have aq:decide ((k:Int) > 0)=true:=by grind
    have b8:(0:Int)<=(k:Int)/\(k:Int)<Int.ofNat m.length:=⟨by omega,by grind⟩
    have cw:(0:Int)<=(k:Int) - 1/\(k:Int) - 1<Int.ofNat m.length:=⟨by omega,by omega⟩
    have ef:(0:Int)<=(k:Int) - 1/\(k:Int) - 1<Int.ofNat (m.set k (m.getD (k - 1) ((0,0,0,0,0,0),0))).length:=⟨by omega,by grind⟩
    have H9:((k:Int) - 1)=((k - 1:Nat):Int):=by omega
    simp only[aq,gZ nd,b8,cw,forall_const,and_self,true_and,A.br,aO.sh,mb,A.nP,A.lE,A.aK,if_true,Bool.true_and,Om,Xp,Int.toNat_natCast,ef];rw[show ((k:Int) - 1).toNat=k - 1 from by omega];refine alC (p:=0<k/\h4 (m.getD k ((0,0,0,0,0,0),0)) (m.getD (k - 1) ((0,0,0,0,0,0),0))=true) ?_ (λ_=>?_) (λ_=>rfl)
    ·rw[Bool.eq_iff_iff];simp only[h4,nd,true_and,decide_eq_true_eq];grind
    rw[H9]
   ·have Xq:k=0:=by omega
    subst Xq;simp[cu]
 ·intro _;have e:qG h4 l (l.length - 1+1)=fx h4 l:=by
   cases l with
   | nil=>rfl
   | cons x r=>exact alx h4 (x::r)
  have au:decide (((l.length - 1+1:Nat):Int)<(l.length:Int))=false:=by grind
  simp only[List.length_range,au,Bool.false_eq_true,if_false,e,A.aK]
def H_(x:Int×Int×Int×(bz×aZ×Int->A Int)×List bz×Unit):A (List bz×Unit):=A.dR (x.1=0/\x.2.1=(x.2.2.2.2.1.length:Int)/\x.2.2.2.2.1.length<=12/\x.2.2.2.1=mb.sh) (fx h4 x.2.2.2.2.1,())
theorem alE(x):A.le (Xc H8 x) (H_ x):=A.bw λh=>by
 obtain⟨a,b,c,f,l,u⟩:=x;obtain⟨E,U,ah,a6⟩:=h;change a=0 at E;change b=(l.length:Int) at U;change l.length<=12 at ah;change f=mb.sh at a6;subst E;subst U;subst a6;unfold Xc;refine A.r6 ?_;have hw:=bF (n:=(l.length:Int) - 0) (by omega) (by omega);have au:decide ((l.length:Int) - 0<=12)=true:=by grind
 simp only[hw,au,if_true];unfold H8;simp_all
theorem alF{n:Int}(h:0<=n)(U:n<=12):IntKind.wrap .u64 n=n:=by
 show (if (false&&decide (n % 2 ^ 64>=(2 ^ (64 - 1):Int)))=true then n % 2 ^ 64 - 2 ^ 64 else n % 2 ^ 64)=n;grind
def yg(x:z1'×Unit):A (z1'×Unit):=A.dR (x.1.length<4611686018427387904) (fx hs x.1,())
def AN(x:(bz×aZ×Int->A Int)×List bz×Unit):A (List bz×Unit):=A.dR (x.2.1.length<=12/\x.1=mb.sh) (fx h4 x.2.1,())
theorem alG(x):A.le (Xe Oh.sh H_ x) (AN x):=A.bw λh=>by
 obtain⟨f,l,u⟩:=x;obtain⟨h,a6⟩:=h;change l.length<=12 at h;change f=mb.sh at a6;subst a6;unfold Xe;have hw:=alF (n:=(l.length:Int)) (by omega) (by omega);show A.bind (A.dR (0<=IntKind.wrap .u64 (l.length:Int)/\IntKind.wrap .u64 (l.length:Int)<=12) _) _=_;rw[A.dF,A.bq (by omega)];unfold H_;simp_all
def AO(x:(z1'->Prop)×Unit):A (z1'×Unit):=⟨(∃ L,x.1 L)/\∀ L,x.1 L->L.length<60000,λy=>x.1 y.1⟩
theorem Xr:∀ (L acc:z1'),L.length+acc.length<60000->jR (λ(D:z1'×Unit) (y:Int)=>A.bind (A.ae (bQ (Add.add (List.length D.1) (Add.add 0 1))) (A.pure (di.normal,D.1++[y],()))) λp=>A.pure (p.1,p.2.1,())) L (acc,())=A.pure (.normal,acc++L,())
 | [],acc,_=>by simp[jR]
 | x::L,acc,h=>by
  simp only[List.length_cons]at h;unfold jR;rw[A.bq (fw (by grind))];simp only[A.aK];rw[Xr L (acc++[x]) (by grind)];simp
theorem alH(x):A.le (W5 x) (AO x):=λh=>by
 obtain⟨S,u⟩:=x;obtain⟨E,U⟩:=h;show A.cy _ _;unfold W5;rw[A.gb];refine⟨E,λL gH=>?_⟩;have gH:S L:=gH;show A.cy (A.bind (jR _ L ([],())) _) _;rw[Xr L [] (by grind)];simp only[A.aK,sA,List.nil_append];exact A.eb.2 gH
theorem alI(x):A.le (W6 AO x) (AO x):=λh=>by
 obtain⟨S,u⟩:=x;show A.cy _ _;unfold W6;rw[A.gb];exact⟨h,λy aT=>A.eb.2 aT⟩
open Classical in
def AP(S:z1'->Prop):z1':=if h:∃ L,S L then fx hs h.choose else []
abbrev sY:aO:=⟨.ct bp,fR,λS=>(∃ L,S L)/\(∀ L e8,S L->S e8->L.Perm e8)/\∀ L,S L->L.length<60000,λS=>AP S⟩
theorem alJ(x):A.le (Wx yg AO x) (sY.sh x):=A.sP λh=>by
 obtain⟨E,U,ah⟩:=h;unfold Wx;rw[A.gb];refine⟨⟨E,λL gH=>by grind⟩,λy aT=>?_⟩;have aT:x y.1:=aT;unfold yg;show A.cy (A.bind (A.dR _ _) _) _;rw[A.dF,A.kP];refine⟨Nat.lt_trans (ah _ aT) (by decide),A.eb.2 ?_⟩;show fx hs y.1=AP x;unfold AP;rw[dif_pos E];exact Xo (U _ _ aT E.choose_spec)
theorem alK{S:z1'->Prop}{L:z1'}(h:S L)(U:∀ L e8,S L->S e8->L.Perm e8):AP S=fx hs L:=by
 have E:∃ L,S L:=⟨L,h⟩
 unfold AP;rw[dif_pos E];exact Xo (U _ _ E.choose_spec h)
def jY{an:Type}(x:Option (List (Int×an)))(L:z1'):Prop:=∃ m,x=some m/\(m.map (·.1)).Perm L
abbrev Ia:aO:=⟨.map bp bp,.ct bp,λ_=>True,λx=>jY (some x)⟩
theorem alL(x):A.le (akH jY x) (Ia.sh x):=A.bw λ_=>rfl
abbrev yh:aO:=⟨.map bp hq,.ct bp,λ_=>True,λx=>jY (some x)⟩
theorem alM(x):A.le (akY jY x) (yh.sh x):=A.bw λ_=>rfl
theorem uy{an:Type}{m:List (Int×an)}{L:z1'}:jY (some m) L<->(m.map (·.1)).Perm L:=⟨λ⟨dA,h,k⟩=>by grind,λh=>⟨m,rfl,h⟩⟩
theorem Xs{an:Type}{m:List (Int×an)}(h:m.length<60000):sY.pre (jY (some m)):=
 ⟨⟨_,uy.2 (.refl _)⟩,λL e8 E U=>(uy.1 E).symm.trans (uy.1 U),λL gH=>by rw[<-(uy.1 gH).length_eq];grind⟩
theorem Xt{an:Type}{m:List (Int×an)}:AP (jY (some m))=fx hs (m.map (·.1)):=
 alK (uy.2 (.refl _)) λL e8 E U=>(uy.1 E).symm.trans (uy.1 U)
end Go.Fer.H
namespace Go.Fer.H
open A (W)
def sZ(s:Int×Int):Bool:=bX s.1 (-30) s.2&&!decide (s.2 > 30)
def iR(l:z4')(i:Nat):Bool:=bX (l.getD i (0,0)).1 0 (l.getD i (0,0)).2&&!decide ((l.getD i (0,0)).2 > 9999)&&!(decide (0<i)&&decide ((l.getD i (0,0)).1<=(l.getD (i - 1) (0,0)).2))
def AQ(l:z4'):Bool:=(List.range l.length).all (iR l)
def rJ(c:aX):Bool:=!(decide ((c.1.length:Int) > 3)||decide ((c.2.1.length:Int) > 12)||decide ((c.2.2.1.length:Int) > 12)||decide ((c.2.2.2.1.length:Int) > 4))&&pM c.2.2.2.2
def iS(c:aX):Bool:=rJ c&&c.1.all sZ&&c.2.1.all (k5 c.1.length)&&c.2.2.1.all (λn=>bX n 0 99)&&AQ c.2.2.2.1
abbrev vZ:aO:=⟨iA,dj,jE,λc=>iS c⟩
theorem Ib{D aJ β:Type}{mk:β->D}{b:β}{q:Bool}{r:aJ}{m:A (W D aJ)}(E:q=true->m=A.pure (.next (mk b)))(U:q=false->m=A.pure (.done r)):m=A.pure (W.ho mk (if (!q)=true then .done r else .next b)):=by
 cases q
 ·exact U rfl
 ·exact E rfl
theorem Xu{an:Type}{a t:Bool}{m n:an}:(if (a||!(if (!a)=true then t else false))=true then m else n)=if (!a&&t)=true then n else m:=by grind
theorem alN(x):A.le (WJ cq.sh vU.sh vV.sh x) (vZ.sh x):=A.bw λh=>by
 obtain⟨aQ,aS,bN,fm⟩:=h;unfold WJ;show _=A.pure (iS x);simp only[aO.sh,vU,A.nP,A.lE,A.aK,bZ,Xu];unfold iS;rw[show (!(decide ((x.1.length:Int) > 3)||decide ((x.2.1.length:Int) > 12)||decide ((x.2.2.1.length:Int) > 12)||decide ((x.2.2.2.1.length:Int) > 4))&&pM x.2.2.2.2)=rJ x from rfl];cases aa:rJ x with
 | false=>rfl
 | true=>
  rw[if_pos rfl];rw[A.ed x.1 (λi (_:Unit)=>((i:Int),x,())) (λy b=>if (!sZ y)=true then .done (.done false) else .next b) (λ_=>.next (x,())) () ?_ ?_ ?_]
  ·rw[kZ (q:=sZ) _ _ (λ_=>rfl)];cases hc:x.1.all sZ with
   | false=>simp
   | true=>
    simp only[if_true,A.aK,A.b7];rw[A.ed x.2.1 (λi (_:Unit)=>((i:Int),x,())) (λy b=>if (!k5 x.1.length y)=true then .done (.done false) else .next b) (λ_=>.next (x,())) () ?_ ?_ ?_]
    ·rw[kZ (q:=k5 x.1.length) _ _ (λ_=>rfl)];cases au:x.2.1.all (k5 x.1.length) with
     | false=>simp
     | true=>
      simp only[if_true,A.aK,A.b7];rw[A.ed x.2.2.1 (λi (_:Unit)=>((i:Int),x,())) (λy b=>if (!bX y 0 99)=true then .done (.done false) else .next b) (λ_=>.next (x,())) () ?_ ?_ ?_]
      ·rw[kZ (q:=λn=>bX n 0 99) _ _ (λ_=>rfl)];cases he:x.2.2.1.all (λn=>bX n 0 99) with
       | false=>simp
       | true=>
        simp only[if_true,A.aK,A.b7];rw[A.ed (List.range x.2.2.2.1.length) (λi (_:Unit)=>((i:Int),x,())) (λy b=>if (!iR x.2.2.2.1 y)=true then .done (.done false) else .next b) (λ_=>.next ()) () ?_ ?_ ?_]
        ·rw[kZ (q:=iR x.2.2.2.1) _ _ (λ_=>rfl)];unfold AQ;cases (List.range x.2.2.2.1.length).all (iR x.2.2.2.1)<;>simp
        ·rfl
        ·intro i G b;have G:i<x.2.2.2.1.length:=by grind
         have hw:=bF (n:=(i:Int)+1) (by omega) (by omega);have gZ:=bF (n:=(i:Int) - 1) (by omega) (by omega);have jy:x.2.2.2.1.getD i (0,0)=x.2.2.2.1[i]:=by grind
         have s3:(decide ((i:Int) > 0))=decide (0<i):=by simp
         have M:decide (0<i)=true->((0:Int)<=(i:Int) - 1/\(i:Int) - 1<(x.2.2.2.1.length:Int)):=λh=>by grind
         refine Ib (mk:=λ(_:Unit)=>(((i+1:Nat):Int),x,())) (b:=b) ?_ ?_<;>intro bt<;>
         ·simp only[List.getElem_range,iR,jy]at bt;simp only[bZ,cX G,if_true,dk G,cP G,A.br,aO.sh,cq,A.nP,A.iX,A.fG,cp,hw,gZ,s3,Om,List.getElem_range];revert bt;generalize bX x.2.2.2.1[i].1 0 x.2.2.2.1[i].2=dO;generalize decide (x.2.2.2.1[i].2 > 9999)=e3;generalize decide (x.2.2.2.1[i].1<=(x.2.2.2.1.getD (i - 1) (0,0)).2)=mS;revert M;generalize decide (0<i)=r5;intro M;cases r5
          ·cases dO<;>cases e3<;>cases mS<;>simp
          ·have M:=M rfl;cases dO<;>cases e3<;>cases mS<;>simp[M,(by omega:(1:Int)<=(i:Int))]
        simp
      ·rfl
      ·intro i G b;have hw:=bF (n:=(i:Int)+1) (by omega) (by omega);simp only[bZ,cX G,if_true,dk G,cP G,A.br,aO.sh,cq,A.nP,A.aK,cp,hw];exact nn (mk:=λ(_:Unit)=>(((i+1:Nat):Int),x,()))
      simp
    ·rfl
    ·intro i G b;have hw:=bF (n:=(i:Int)+1) (by omega) (by omega);simp only[bZ,cX G,if_true,dk G,cP G,A.br,aO.sh,vV,A.od,A.gQ,A.aK,cp,hw];rw[A.bq aQ];exact nn (mk:=λ(_:Unit)=>(((i+1:Nat):Int),x,()))
    simp
  ·rfl
  ·intro i G b;have hw:=bF (n:=(i:Int)+1) (by omega) (by omega);refine Ib (mk:=λ(_:Unit)=>(((i+1:Nat):Int),x,())) (b:=b) ?_ ?_<;>intro bt<;>
   ·simp only[sZ]at bt;simp only[bZ,cX G,if_true,dk G,cP G,A.br,aO.sh,cq,A.nP,A.iX,A.fG,cp,hw];revert bt;generalize bX x.1[i].1 (-30) x.1[i].2=dO;generalize decide (x.1[i].2 > 30)=e3;simp_all
  simp
theorem Xv{an:Type}{p:an->Bool}(l:List an):(l.any λy=>!p y)=!l.all p:=by grind
theorem alO(x):A.le (WI cq.sh (jf hq).sh vU.sh (jf bp).sh Ec.sh AL.sh x) (vZ.sh x):=A.bw λh=>by
 obtain⟨aQ,aS,bN,fm⟩:=h;unfold WI;show _=A.pure (iS x);simp only[show vU.sh x.2.2.2.2=A.pure (pM x.2.2.2.2) from rfl,A.lE,A.aK,bZ,Xu];unfold iS;rw[show (!(decide ((x.1.length:Int) > 3)||decide ((x.2.1.length:Int) > 12)||decide ((x.2.2.1.length:Int) > 12)||decide ((x.2.2.2.1.length:Int) > 4))&&pM x.2.2.2.2)=rJ x from rfl];cases aa:rJ x with
 | false=>rfl
 | true=>
  rw[if_pos rfl];rw[A.ed x.1 (λi (_:Unit)=>(x.1,(x.1.length:Int),(i:Int),x,())) (λy b=>if (!sZ y)=true then .done (.done false) else .next b) (λ_=>.next (x,())) () ?_ ?_ ?_]
  ·rw[kZ (q:=sZ) _ _ (λ_=>rfl)];cases hc:x.1.all sZ with
   | false=>simp
   | true=>
    simp only[if_true,A.aK,A.b7];rw[A.ed (List.range x.2.2.2.1.length) (λi (_:Unit)=>(x.2.2.2.1,(x.2.2.2.1.length:Int),(i:Int),x,())) (λy b=>if (!iR x.2.2.2.1 y)=true then .done (.done false) else .next b) (λ_=>.next (x,())) () ?_ ?_ ?_]
    ·rw[kZ (q:=iR x.2.2.2.1) _ _ (λ_=>rfl)];unfold AQ;cases au:(List.range x.2.2.2.1.length).all (iR x.2.2.2.1) with
     | false=>simp
     | true=>
      simp only[if_true,A.aK,A.b7];have az:(jf hq).sh (x.2.1,λy=>Ec.sh (y,some x))=A.pure (!x.2.1.all (k5 x.1.length)):=by
       have ao:∀ y,Ec.sh (y,some x)=A.pure (!k5 x.1.length y):=λy=>A.bR ⟨x,rfl,aQ⟩ _;refine (A.bR ⟨aS,λy _=>⟨_,ao y⟩⟩ _).trans ?_;refine congrArg A.pure ?_;rw[<-Xv];simp_all
      have aN:(jf bp).sh (x.2.2.1,AL.sh)=A.pure (!x.2.2.1.all (λn=>bX n 0 99)):=by
       refine (A.bR ⟨bN,λy _=>⟨_,rfl⟩⟩ _).trans ?_;refine congrArg A.pure ?_;rw[<-Xv];show (x.2.2.1.any λy=>(AL.sh y).val false)=_;simp only[show ∀ y,AL.sh y=A.pure (!bX y 0 99) from λ_=>rfl,A.fG]
      rw[az,aN];simp only[A.aK,A.lE];grind
    ·rfl
    ·intro i G b;have G:i<x.2.2.2.1.length:=by grind
     have hw:=bF (n:=(i:Int)+1) (by omega) (by omega);have gZ:=bF (n:=(i:Int) - 1) (by omega) (by omega);have jy:x.2.2.2.1.getD i (0,0)=x.2.2.2.1[i]:=by grind
     have s3:(decide ((i:Int) > 0))=decide (0<i):=by simp
     have M:decide (0<i)=true->((0:Int)<=(i:Int) - 1/\(i:Int) - 1<(x.2.2.2.1.length:Int)):=λh=>by grind
     refine Ib (mk:=λ(_:Unit)=>(x.2.2.2.1,(x.2.2.2.1.length:Int),((i+1:Nat):Int),x,())) (b:=b) ?_ ?_<;>intro bt<;>
     ·simp only[List.getElem_range,iR,jy]at bt;simp only[bZ,cX G,if_true,dk G,cP G,A.br,aO.sh,cq,A.nP,A.iX,A.fG,cp,hw,gZ,s3,Om,List.getElem_range];revert bt;generalize bX x.2.2.2.1[i].1 0 x.2.2.2.1[i].2=dO;generalize decide (x.2.2.2.1[i].2 > 9999)=e3;generalize decide (x.2.2.2.1[i].1<=(x.2.2.2.1.getD (i - 1) (0,0)).2)=mS;revert M;generalize decide (0<i)=r5;intro M;cases r5
      ·cases dO<;>cases e3<;>cases mS<;>simp
      ·have M:=M rfl;cases dO<;>cases e3<;>cases mS<;>simp[M,(by omega:(1:Int)<=(i:Int))]
    simp
  ·rfl
  ·intro i G b;have hw:=bF (n:=(i:Int)+1) (by omega) (by omega);refine Ib (mk:=λ(_:Unit)=>(x.1,(x.1.length:Int),((i+1:Nat):Int),x,())) (b:=b) ?_ ?_<;>intro bt<;>
   ·simp only[sZ]at bt;simp only[bZ,cX G,if_true,dk G,cP G,A.br,aO.sh,cq,A.nP,A.aK,cp,hw];grind
  simp
abbrev jz:aZ:=(0,0,0,0,0,0)
def kl(l:List aZ):Bool:=(List.range l.length).any λi=>(List.range i).any λk=>uw (l.getD k jz) (l.getD i jz)
def b'(c:aX):Int:=if iS c=true then (if kl c.2.1=true then 91 else 0) else 90
abbrev g_:aO:=⟨iA,bp,jE,λc=>b' c⟩
theorem s4{an:Type}{l:List an}{i:Nat}{d:an}(h:i<l.length):l.getD i d=l[i]:=by grind
theorem alP(x):A.le (Wq vZ.sh H3.sh x) (g_.sh x):=A.bw λh=>by
 obtain⟨aQ,aS,bN,fm⟩:=id h;unfold Wq;show _=A.pure (b' x);rw[show vZ.sh x=A.pure (iS x) from A.bR h _];unfold b';cases iS x with
 | false=>simp
 | true=>
  simp only[A.aK,Bool.not_true,Bool.false_eq_true,if_false,if_true];rw[A.ed (List.range x.2.1.length) (λi (_:Unit)=>((i:Int),x,())) (λi b=>if ((List.range i).any λk=>uw (x.2.1.getD k jz) (x.2.1.getD i jz))=true then .done (.done 91) else .next b) (λ_=>.next ()) () ?_ ?_ ?_]
  ·rw[sQ];unfold kl;cases (List.range x.2.1.length).any λi=>(List.range i).any λk=>uw (x.2.1.getD k jz) (x.2.1.getD i jz)<;>simp
  ·rfl
  ·intro i G b;have G:i<x.2.1.length:=by grind
   have hw:=bF (n:=(i:Int)+1) (by omega) (by omega);have au:decide ((i:Int)<Int.ofNat x.2.1.length)=true:=cX G;simp only[au,if_true,List.getElem_range];rw[A.ed (List.range i) (λk (_:Unit)=>((i:Int),(k:Int),x,())) (λk b=>if uw (x.2.1.getD k jz) (x.2.1.getD i jz)=true then .done (.done (.done (.done 91))) else .next b) (λ_=>(.next ((i:Int),x,()):W (Int×aX×Unit) (W (Int×aX×Unit) (W Unit Int)))) () ?_ ?_ ?_]
   ·rw[sQ];cases (List.range i).any λk=>uw (x.2.1.getD k jz) (x.2.1.getD i jz)<;>simp[hw]
   ·rfl
   ·intro k ak b;have ak:k<i:=by grind
    have v7:k<x.2.1.length:=by omega
    have hw:=bF (n:=(k:Int)+1) (by omega) (by omega);have au:decide ((k:Int)<(i:Int))=true:=by grind
    simp only[au,if_true,bZ,cP v7,cP G,A.br,aO.sh,H3,A.nP,A.iX,A.fG,A.aK,cp,hw,List.getElem_range,Xp];exact nn (mk:=λ(_:Unit)=>((i:Int),((k+1:Nat):Int),x,()))
   simp
  simp
def dn(l:List aZ):List aZ:=(d_ 0 99).filterMap λid=>l.find? λs=>s.1 == id
def e9(c:aX):List aZ:=(dn c.2.1).filter λs=>!c.2.2.1.contains s.1
theorem alQ(l:List aZ):(dn l).length<=100:=by
 refine Nat.le_trans (List.length_filterMap_le _ _) ?_;rw[show (d_ 0 99).length=100 from by decide];omega
def jA(m:List (Int×aZ))(k:Int):Option aZ:=(m.find? λp=>decide (k=p.1)).map (·.2)
def jg(m:List (Int×aZ)):z1':=m.map (·.1)
theorem On(p:Int×aZ)(m:List (Int×aZ))(k:Int)(v:aZ):k1 (p::m) k v=if decide (k=p.1)=true then (p.1,v)::m else p::k1 m k v:=rfl
theorem Oo(k:Int)(v:aZ):k1 [] k v=[(k,v)]:=rfl
theorem Xw(k:Int)(v:aZ):∀ m:List (Int×aZ),(k1 m k v).length<=m.length+1
 | []=>by rw[Oo];simp
 | p::m=>by
  rw[On];split
  ·simp
  ·simp;exact Xw k v m
theorem Oq(k:Int)(v:aZ)(x:Int):∀ m:List (Int×aZ),jA (k1 m k v) x=if x=k then some v else jA m x
 | []=>by
  rw[Oo];by_cases h:x=k<;>simp[jA,h]
 | p::m=>by
  rw[On];have aL:=Oq k v x m;unfold jA at aL ⊢;grind
theorem Ee(k:Int)(v:aZ):∀ m:List (Int×aZ),((jg m).Nodup->(jg (k1 m k v)).Nodup)/\∀ x,x∈jg (k1 m k v)<->x∈jg m\/x=k
 | []=>by rw[Oo];simp[jg]
 | p::m=>by
  obtain⟨E,U⟩:=Ee k v m;rw[On];by_cases h:k=p.1
  ·subst h;simp only[decide_true,if_true];refine⟨λh=>h,λx=>?_⟩;show x∈p.1::jg m<->x∈p.1::jg m\/x=p.1;grind
  ·simp only[h,decide_false,Bool.false_eq_true,if_false];refine⟨λax=>?_,λx=>?_⟩
   ·show (p.1::jg (k1 m k v)).Nodup;have CH:(p.1::jg m).Nodup:=ax;grind
   ·show x∈p.1::jg (k1 m k v)<->x∈p.1::jg m\/x=k;grind
theorem Xx{m:List (Int×aZ)}{k:Int}:k∈jg m<->(jA m k).isSome=true:=by
 unfold jA jg;simp
def pO(l:List aZ):Prop:=∀ a∈l,∀ b∈l,a.1=b.1->a=b
def qH(l:List aZ)(k:Int):Option aZ:=l.find? λs=>s.1 == k
def rK:List aZ->List (Int×aZ)->Option (List (Int×aZ))
 | [],m=>some m
 | s::l,m=>if ((jA m s.1).isSome&&!decide ((jA m s.1).getD jz=s))=true then none else rK l (k1 m s.1 s)
structure uz(P:List aZ)(m:List (Int×aZ)):Prop where
 oY:∀ k,jA m k=qH P k
 mD:(jg m).Nodup
 og:pO P
 Ef:m.length<=P.length
theorem Xy{l:List aZ}{k:Int}{s:aZ}(h:qH l k=some s):s∈l/\s.1=k:=by
 unfold qH at h;grind
theorem alR{l:List aZ}{k:Int}(h:qH l k=none):∀ s∈l,s.1≠k:=by
 unfold qH at h;grind
theorem uz.nil:uz [] []:=⟨λ_=>rfl,.nil,λa h=>by simp,Nat.le_refl _⟩
theorem AR:∀ (l P:List aZ) (m:List (Int×aZ)),uz P m->(pO (P++l)->∃ dA,rK l m=some dA/\uz (P++l) dA)/\(¬pO (P++l)->rK l m=none)
 | [],P,m,h=>by simp only[List.append_nil];exact⟨λ_=>⟨m,rfl,h⟩,λax=>absurd h.og ax⟩
 | s::l,P,m,h=>by
  unfold rK;rw[h.oY];cases ao:qH P s.1 with
  | some o=>
   obtain⟨ag,G⟩:=Xy ao;by_cases he:o=s
   ·subst he;simp only[Option.isSome_some,Option.getD_some,decide_true,Bool.not_true,Bool.and_false,Bool.false_eq_true,if_false];have:=AR l (P++[o]) (k1 m o.1 o) ⟨λk=>?_,(Ee _ _ _).1 h.mD,?_,?_⟩
    ·grind
    ·rw[Oq,h.oY];unfold qH at ao ⊢;grind
    ·intro a a_ b aa v8;simp only[List.mem_append,List.mem_singleton]at a_ aa;exact h.og a (a_.elim id λe=>e ▸ ag) b (aa.elim id λe=>e ▸ ag) v8
    ·have hm:o.1∈jg m:=Xx.2 (by rw[h.oY,ao];rfl);have al:(jg (k1 m o.1 o)).length<=(jg m).length:=by
      have E:=(Ee o.1 o m).1 h.mD;have U:jg (k1 m o.1 o) ⊆ jg m:=λx ai=>by
       rcases ((Ee o.1 o m).2 x).1 ai with ai | ai
       ·exact ai
       ·exact ai ▸ hm
      exact E.length_le_of_subset U
     have:=h.Ef;simp only[jg,List.length_map]at al;grind
   ·simp only[Option.isSome_some,Option.getD_some,he,decide_false,Bool.not_false,Bool.and_self,if_true];refine⟨λax=>absurd (ax o (by grind) s (by simp) G) he,λ_=>trivial⟩
  | none=>
   simp only[Option.isSome_none,Bool.false_and,Bool.false_eq_true,if_false];have:=AR l (P++[s]) (k1 m s.1 s) ⟨λk=>?_,(Ee _ _ _).1 h.mD,?_,?_⟩
   ·grind
   ·rw[Oq,h.oY];have ry:=ao;unfold qH at ao ⊢;grind
   ·have ao:=alR ao;intro a a_ b aa v8;simp only[List.mem_append,List.mem_singleton]at a_ aa;rcases a_ with a_ | rfl<;>rcases aa with aa | rfl
    ·exact h.og a a_ b aa v8
    ·exact absurd v8 (ao a a_)
    ·exact absurd v8.symm (ao b aa)
    ·rfl
   ·have:=Xw s.1 s m;have:=h.Ef;grind
theorem uA(l:List aZ):kl l=false<->pO l:=by
 unfold kl uw;rw[<-Bool.not_eq_true,List.any_eq_true];constructor
 ·intro h a a_ b aa v8;obtain⟨i,G,rfl⟩:=List.mem_iff_getElem.1 a_;obtain⟨k,ak,rfl⟩:=List.mem_iff_getElem.1 aa;by_cases he:l[i]=l[k]
  ·exact he
  ·exfalso;have eQ:i≠k:=λe=>he (by grind);rcases Nat.lt_or_gt_of_ne eQ with ch | ch
   ·refine h ⟨k,by grind,List.any_eq_true.2 ⟨i,by grind,?_⟩⟩;grind
   ·refine h ⟨i,by grind,List.any_eq_true.2 ⟨k,by grind,?_⟩⟩;grind
 ·rintro h ⟨i,G,ak⟩;obtain⟨k,ak,hc⟩:=List.any_eq_true.1 ak;simp only[List.mem_range]at G ak;rw[s4 G,s4 (by omega:k<l.length)]at hc;simp only[Bool.and_eq_true,decide_eq_true_eq,Bool.not_eq_true',decide_eq_false_iff_not]at hc;exact hc.2 (h _ (List.getElem_mem _) _ (List.getElem_mem _) hc.1)
theorem alS{l:List aZ}:kl l=true<->¬pO l:=by rw[<-uA];simp
theorem Xz{l:List aZ}{m:List (Int×aZ)}(h:uz l m)(hid:∀ s∈l,bX s.1 0 99=true):(fx hs (jg m)).map (λk=>(jA m k).getD jz)=dn l:=by
 have az:fx hs (jg m)=(d_ 0 99).filter λk=>(qH l k).isSome:=by
  refine AM ?_ ?_
  ·refine List.Pairwise.filter _ ?_;unfold d_;rw[List.pairwise_map];exact (List.pairwise_lt_range).imp λh=>by omega
  ·refine (List.perm_ext_iff_of_nodup h.mD ?_).2 λk=>?_
   ·refine List.Pairwise.filter _ ?_;unfold d_;rw[List.pairwise_map];exact (List.pairwise_lt_range).imp λh=>by omega
   ·rw[Xx,h.oY,List.mem_filter,oW];refine⟨λaD=>⟨?_,aD⟩,λaD=>aD.2⟩;obtain⟨s,aD⟩:=Option.isSome_iff_exists.1 aD;obtain⟨E,U⟩:=Xy aD;exact U ▸ lI.1 (hid s E)
 rw[az];unfold dn;have:∀ L:z1',(L.filter λk=>(qH l k).isSome).map (λk=>(jA m k).getD jz)=L.filterMap λid=>l.find? λs=>s.1 == id:=by
  intro L;induction L with
  | nil=>rfl
  | cons k L aL=>
   rw[List.filter_cons,List.filterMap_cons];have e:(l.find? λs=>s.1 == k)=qH l k:=rfl;rw[e];cases ao:qH l k with
   | none=>grind
   | some s=>
    have hC:(jA m k).getD jz=s:=by rw[h.oY,ao];rfl
    grind
 grind
theorem alT{l:List aZ}{m:List (Int×aZ)}(h:uz l m)(hid:∀ s∈l,bX s.1 0 99=true):(dn l).length<=l.length:=by
 rw[<-Xz h hid,List.length_map,H7,jg,List.length_map];exact h.Ef
theorem XA{aJ:Type}{r:aJ}{fin:List (Int×aZ)->aJ}:∀ (l:List aZ) (m:List (Int×aZ)),e1 (λs m=>if ((jA m s.1).isSome&&!decide ((jA m s.1).getD jz=s))=true then .done r else .next (k1 m s.1 s)) fin l m=match rK l m with | none=>r | some dA=>fin dA
 | [],m=>rfl
 | s::l,m=>by
  simp only[e1,rK];by_cases h:((jA m s.1).isSome&&!decide ((jA m s.1).getD jz=s))=true
  ·grind
  ·simp only[h,Bool.false_eq_true,if_false];exact XA l _
def v_(l:List aZ):Prop:=l.length<=24/\∀ s∈l,bX s.1 0 99=true
abbrev AS:aO:=⟨.slice hq,.aB (.slice hq) .bool,v_,λl=>if kl l=true then ([],false) else (dn l,true)⟩
theorem alU{m:List (Int×aZ)}{yi:z1'}{aJ:Type}(h:yi.length<=24) :
 A.loop (λ(D:z1'×Int×Int×List aZ×List (Int×aZ)×Unit)=>if decide (D.2.2.1<D.2.1)=true then A.ae (0<=D.2.2.1/\D.2.2.1<Int.ofNat (List.length D.1)) (A.ae (bQ
 (Add.add (List.length D.2.2.2.1) (Add.add 0 1))) (A.pure (W.next (D.1,D.2.1,IntKind.wrap .i64 (Add.add D.2.2.1 1),D.2.2.2.1++[Option.getD
 (Option.map (λx=>x.2) (List.find? (λp=>decide (List.getD D.1 (Int.toNat D.2.2.1) 0=p.1)) D.2.2.2.2.1)) (0,0,0,0,0,0)],D.2.2.2.2.1,())))) else A.bind (A.pure (W.next (D.2.2.2.1,()))) λr=>A.pure (W.done r)) (yi,Int.ofNat (List.length yi),0,[],m,())=A.pure (W.next (yi.map (λk=>(jA m k).getD jz),()):W (List aZ×Unit) aJ):=by
 rw[A.f_ yi (λi (b:List aZ)=>(yi,(yi.length:Int),(i:Int),b,m,())) (λk b=>.next (b++[(jA m k).getD jz])) (λb=>.next (b,())) (λi b=>b.length=i) [] ?_ ?_ ?_ ?_]
 ·rw[eL,sR];rfl
 ·rfl
 ·rfl
 ·intro i G b aa;have hw:=bF (n:=(i:Int)+1) (by omega) (by omega);refine⟨?_,λbe cY=>?_⟩
  ·simp only[bZ,cX G,if_true,dk G,cP G,A.br,cp,hw];rw[A.bq (fw (by grind))];rfl
  grind
 simp
def s5{gC:Type}(R:A gC):List aZ×Int×Int×List (Int×aZ)×Unit->A (W (List aZ×Int×Int×List (Int×aZ)×Unit) (W (List (Int×aZ)×Unit) gC)):=λ(D:List aZ×Int×Int×List (Int×aZ)×Unit)=>if decide (D.2.2.1<D.2.1)=true then A.ae (0<=D.2.2.1/\D.2.2.1 <
 Int.ofNat (List.length D.1)) (if (Option.isSome (Option.map (λx=>x.2) (List.find? (λp=>decide ((List.getD D.1 (Int.toNat D.2.2.1) (0,0,0,0,0,0)).1=p.1)) D.2.2.2.1))&&!(decide ((Option.getD (Option.map (λx=>x.2) (List.find? (λp=>decide ((List.getD D.1 (Int.toNat D.2.2.1)
 (0,0,0,0,0,0)).1=p.1)) D.2.2.2.1)) (0,0,0,0,0,0)).1=(List.getD D.1 (Int.toNat D.2.2.1) (0,0,0,0,0,0)).1)&&(decide ((Option.getD
 (Option.map (λx=>x.2) (List.find? (λp=>decide ((List.getD D.1 (Int.toNat D.2.2.1) (0,0,0,0,0,0)).1=p.1)) D.2.2.2.1)) (0,0,0,0,0,0)).2.1=(List.getD D.1 (Int.toNat D.2.2.1) (0,0,0,0,0,0)).2.1)&&(decide ((Option.getD (Option.map (λx=>x.2) (List.find? (λp=>
 decide ((List.getD D.1 (Int.toNat D.2.2.1) (0,0,0,0,0,0)).1=p.1)) D.2.2.2.1)) (0,0,0,0,0,0)).2.2.1=(List.getD D.1 (Int.toNat D.2.2.1)
 (0,0,0,0,0,0)).2.2.1)&&(decide ((Option.getD (Option.map (λx=>x.2) (List.find? (λp=>decide ((List.getD D.1 (Int.toNat D.2.2.1) (0,0,0,0,0,0)).1=p.1)) D.2.2.2.1)) (0,0,0,0,0,0)).2.2.2.1=(List.getD D.1 (Int.toNat D.2.2.1) (0,0,0,0,0,0)).2.2.2.1)&&(decide
 ((Option.getD (Option.map (λx=>x.2) (List.find? (λp=>decide ((List.getD D.1 (Int.toNat D.2.2.1) (0,0,0,0,0,0)).1=p.1)) D.2.2.2.1))
 (0,0,0,0,0,0)).2.2.2.2.1=(List.getD D.1 (Int.toNat D.2.2.1) (0,0,0,0,0,0)).2.2.2.2.1)&&decide ((Option.getD (Option.map (λx=>x.2)
 (List.find? (λp=>decide ((List.getD D.1 (Int.toNat D.2.2.1) (0,0,0,0,0,0)).1=p.1)) D.2.2.2.1)) (0,0,0,0,0,0)).2.2.2.2.2=(List.getD
 D.1 (Int.toNat D.2.2.1) (0,0,0,0,0,0)).2.2.2.2.2)))))))=true then A.bind (A.bind R λr=>A.pure (W.done r)) λr=>
 A.pure (W.done r) else A.pure (W.next (D.1,D.2.1,IntKind.wrap .i64 (Add.add D.2.2.1 1),k1 D.2.2.2.1 (List.getD D.1 (Int.toNat D.2.2.1)
 (0,0,0,0,0,0)).1 (List.getD D.1 (Int.toNat D.2.2.1) (0,0,0,0,0,0)),()))) else A.bind (A.pure (W.next (D.2.2.2.1,()))) λr=>A.pure
 (W.done r)
theorem XB{gC:Type}{R:A gC}{l:List aZ}(al:l.length<=24){i:Nat}(G:i<l.length)(m:List (Int×aZ)):s5 R (l,(l.length:Int),(i:Int),m,())=if ((jA m l[i].1).isSome&&!decide ((jA m l[i].1).getD jz=l[i]))=true then A.bind (A.bind R λr=>A.pure (W.done r)) λr=>A.pure (W.done r) else A.pure (.next (l,(l.length:Int),((i+1:Nat):Int),k1 m l[i].1 l[i],())):=by
 have hw:=bF (n:=(i:Int)+1) (by omega) (by omega);have es:=Xf ((jA m l[i].1).getD jz) l[i];unfold s5;simp only[bZ,cX G,if_true,dk G,cP G,A.br,cp,hw];rw[show (Option.map (λx=>x.2) (List.find? (λp=>decide (l[i].1=p.1)) m))=jA m l[i].1 from rfl];grind
theorem XC{gC:Type}{R:A gC}{l:List aZ}(m:List (Int×aZ)):s5 R (l,(l.length:Int),(l.length:Int),m,())=A.pure (.done (.next (m,()))):=by
 unfold s5;simp
def AT{gC:Type}(k:List aZ->A gC):List (Int×aZ)×Unit->A gC:=λ(D:List (Int×aZ)×Unit)=>A.bind (A.bind
 (yh.sh D.1) λy=>A.bind (sY.sh y) λy=>A.loop (λ(D:z1'×Int×Int×List aZ×
 List (Int×aZ)×Unit)=>if decide (D.2.2.1<D.2.1)=true then A.ae (0<=D.2.2.1/\D.2.2.1<Int.ofNat (List.length D.1)) (A.ae (bQ
 (Add.add (List.length D.2.2.2.1) (Add.add 0 1))) (A.pure (W.next (D.1,D.2.1,IntKind.wrap .i64 (Add.add D.2.2.1 1),D.2.2.2.1++[Option.getD
 (Option.map (λx=>x.2) (List.find? (λp=>decide (List.getD D.1 (Int.toNat D.2.2.1) 0=p.1)) D.2.2.2.2.1)) (0,0,0,0,0,0)],D.2.2.2.2.1,())))) else A.bind (A.pure (W.next (D.2.2.2.1,()))) λr=>A.pure (W.done r)) (y,Int.ofNat (List.length y),0,[],D.1,())) (W.bC λ(D
 : List aZ×Unit)=>k D.1)
theorem alV{l:List aZ}{m:List (Int×aZ)}(eB:uz l m)(hid:v_ l){gC:Type}(k:List aZ->A gC):AT k (m,())=k (dn l):=by
 obtain⟨al,hid⟩:=hid;have aq:sY.pre (jY (some m)):=Xs (by have:=eB.Ef;omega);have e:sY.sh (jY (some m))=A.pure (fx hs (jg m)):=by
  refine (A.bR aq _).trans (congrArg A.pure ?_);exact Xt
 unfold AT;show A.bind (A.bind (yh.sh m) _) _=_;rw[show yh.sh m=A.pure (jY (some m)) from rfl,A.aK,e,A.aK,alU (by rw[H7,jg,List.length_map];have:=eB.Ef;omega),A.aK,A.b7,Xz eB hid]
theorem XD(l:List aZ)(h:v_ l)(hc:kl l=false){gC:Type}(k:List aZ->A gC)(R:A gC) :
  A.bind (A.loop (s5 R) (l,Int.ofNat (List.length l),0,[],())) (W.bC (AT k))=k (dn l):=by
 have ax:=(uA l).1 hc;obtain⟨E,_⟩:=AR l [] [] .nil;rw[List.nil_append]at E;obtain⟨m,hm,eB⟩:=E ax;have key:A.loop (s5 R) (l,Int.ofNat (List.length l),0,[],())=A.pure (.next (m,())):=by
  have gen:∀ (k:Nat) (i:Nat) (dA:List (Int×aZ)),l.length - i=k->i<=l.length->rK (l.drop i) dA=some m->uz (l.take i) dA->A.loop (s5 R) (l,(l.length:Int),(i:Int),dA,())=A.pure (.next (m,())):=by
   intro k;induction k with
   | zero=>
    intro i dA ak G ag _;have:i=l.length:=by omega
    subst this;rw[List.drop_length]at ag;simp only[rK,Option.some.injEq]at ag;subst ag;exact A.r6 (XC _)
   | succ k aL=>
    intro i dA ak G ag M9;have G:i<l.length:=by omega
    rw[List.drop_eq_getElem_cons G]at ag;unfold rK at ag;split at ag
    ·cases ag
    ·rename_i F9;refine (A.y_ ((XB h.1 G dA).trans (if_neg F9))).trans ?_;refine aL (i+1) _ (by omega) G ag ?_;obtain⟨g1,_⟩:=AR [l[i]] (l.take i) dA M9;have pP:l.take i++[l[i]]=l.take (i+1):=by simp
     rw[pP]at g1;obtain⟨ayp,az,aN⟩:=g1 λa a_ b aa=>ax a (List.mem_of_mem_take a_) b (List.mem_of_mem_take aa);unfold rK at az;rw[if_neg F9]at az;simp only[rK,Option.some.injEq]at az;grind
  exact gen l.length 0 [] rfl (Nat.zero_le _) hm .nil
 rw[key,A.aK,A.b7,alV eB h]
theorem alW(l:List aZ)(h:v_ l)(hc:kl l=true){gC:Type}(k:List aZ->A gC)(r:gC) :
  A.bind (A.loop (s5 (A.pure r)) (l,Int.ofNat (List.length l),0,[],())) (W.bC (AT k))=A.pure r:=by
 rw[A.ed l (λi (m:List (Int×aZ))=>(l,(l.length:Int),(i:Int),m,())) (λs m=>if ((jA m s.1).isSome&&!decide ((jA m s.1).getD jz=s))=true then (.done (.done r):W (List (Int×aZ)) (W (List (Int×aZ)×Unit) _)) else .next (k1 m s.1 s)) (λm=>.next (m,())) [] ?_ ?_ ?_]
 ·rw[XA];obtain⟨_,U⟩:=AR l [] [] .nil;rw[U (alS.1 hc)];simp
 ·rfl
 ·intro i G m;rw[XB h.1 G m,A.aK,A.aK];exact Vy (mk:=λ(m:List (Int×aZ))=>(l,(l.length:Int),((i+1:Nat):Int),m,()))
 ·intro m;exact XC m
theorem alX(x):A.le (akR sY.sh yh.sh x) (AS.sh x):=A.bw λh=>by
 show A.bind (A.loop (s5 (A.pure ([],false))) (x,Int.ofNat (List.length x),0,[],())) (W.bC (AT λa=>A.pure (a,true)))=A.pure (if kl x=true then ([],false) else (dn x,true));cases hc:kl x with
 | true=>exact alW x h hc _ _
 | false=>exact XD x h hc _ _
def Ic(x:List aZ×Unit):A (Bool×List aZ×Unit):=A.dR (v_ x.1/\kl x.1=false) (true,dn x.1,())
theorem alY(x):A.le (ak4 sY.sh yh.sh x) (Ic x):=A.bw λh=>by
 show A.bind (A.loop (s5 (A.pure (false,[],()))) (x.1,Int.ofNat (List.length x.1),0,[],())) (W.bC (AT λa=>A.pure (true,a,())))=_;exact XD x.1 h.1 h.2 _ _
theorem Ie{c:aX}(h:iS c=true):v_ c.2.1:=by
 unfold iS rJ at h;simp only[Bool.and_eq_true,List.all_eq_true,Bool.not_eq_true',Bool.or_eq_false_iff,decide_eq_false_iff_not]at h;obtain⟨⟨⟨⟨⟨bj,_⟩,_⟩,U⟩,_⟩,_⟩:=h;refine⟨by omega,λs aD=>?_⟩;have:=U s aD;unfold k5 at this;grind
theorem alZ(x):A.le (Wp vZ.sh AS.sh x) (g_.sh x):=A.bw λh=>by
 unfold Wp;show _=A.pure (b' x);rw[show vZ.sh x=A.pure (iS x) from A.bR h _];unfold b';cases hc:iS x with
 | false=>simp
 | true=>
  simp only[A.aK,Bool.not_true,Bool.false_eq_true,if_false,if_true];rw[show AS.sh x.2.1=A.pure (if kl x.2.1=true then ([],false) else (dn x.2.1,true)) from A.bR (Ie hc) _];cases kl x.2.1<;>simp
def If(x:(aZ->A Bool)×List aZ×Unit):A ((Nat×Nat)×List aZ×Unit):=A.dR (x.2.1.length<2 ^ 63/\∀ y∈x.2.1,∃ b,x.1 y=A.pure b)
 ((0,(x.2.1.filter λs=>!(x.1 s).val false).length),(x.2.1.filter λs=>!(x.1 s).val false)++List.replicate (x.2.1.length - (x.2.1.filter λs=>!(x.1 s).val false).length) jz,())
theorem XE{an:Type}(p:an->Bool):∀ (l:List an) (i:Int),(l.any p=true->∃ k:Nat,∃ h:k<l.length,hS p l i=i+k/\p l[k]=true/\(∀ y∈l.take k,p y=false))
 | [],i,h=>by grind
 | x::l,i,h=>by
  unfold hS;by_cases ai:p x=true
  ·grind
  ·have nV:p x=false:=by grind
   simp only[List.any_cons,nV,Bool.false_or]at h;obtain⟨k,ak,E,U,ah⟩:=XE p l (i+1) h;refine⟨k+1,by grind,by grind,by grind,?_⟩;grind
theorem al0(x):A.le (W7 (k4 hq).sh x) (If x):=A.bw λh=>by
 obtain⟨f,l,u⟩:=x;obtain⟨E,U⟩:=h;change l.length<2 ^ 63 at E;change ∀ y∈l,∃ b,f y=A.pure b at U;unfold W7;rw[show (k4 hq).sh (l,f)=A.pure (hS (λy=>(f y).val false) l 0) from A.bR ⟨E,U⟩ _];rw[A.aK];by_cases a_:(l.any λy=>(f y).val false)=true
 ·obtain⟨k,ak,az,aN,cL⟩:=XE (λy=>(f y).val false) l 0 a_;have hw:=bF (n:=(k:Int)+1) (by omega) (by omega);have eQ:¬(decide ((0:Int)+k=-1)=true):=by simp
  rw[az,if_neg eQ];generalize bt:(λs=>!(f s).val false)=q at *
  have al1:∀ s,(!(f s).val false)=q s:=λs=>by grind
  have pP:l.take k=(l.take k).filter q:=by
   rw[List.filter_eq_self.2];grind
  have H9:(l.take (k+1)).filter q=l.take k:=by
   rw[List.take_add_one,List.getElem?_eq_getElem ak,Option.toList_some,List.filter_append,<-pP];grind
  rw[A.ed (l.drop (k+1)) (λi (_:Unit)=>(f,(((l.take (k+1+i)).filter q).length:Int),((k+1+i:Nat):Int),(l.take (k+1+i)).filter q++l.drop ((l.take (k+1+i)).filter q).length,())) (λ_ u=>.next u) (λ_=>.next (((l.filter q).length:Int),l.filter q++l.drop (l.filter q).length,())) () ?_ ?_ ?_]
  ·rw[eL];have hlen:(l.filter q).length<=l.length:=List.length_filter_le _ _;have gw:(l.filter q++l.drop (l.filter q).length).length=l.length:=by grind
   simp only[A.aK,A.b7,bZ,gw];rw[A.bq (by omega)];simp only[A.br,Int.toNat_natCast];have Eg:List.take (l.filter q).length (l.filter q++l.drop (l.filter q).length)=l.filter q:=List.take_left;rw[Eg];refine (A.bq ⟨by omega,by omega,by grind⟩ _).trans ?_;refine congrArg A.pure (Prod.ext rfl (Prod.ext ?_ rfl));show (_++_++_:List aZ)=_;exact (congrArg (λz=>_++z) (List.drop_eq_nil_iff.2 (by simp))).trans (List.append_nil _)
  ·show (f,(0:Int)+k,IntKind.wrap .i64 (Add.add ((0:Int)+k) 1),l,())=_;rw[Int.zero_add,cp,hw];refine Prod.ext rfl (Prod.ext ?_ (Prod.ext ?_ (Prod.ext ?_ rfl)))
   ·grind
   ·rfl
   ·show l=(l.take (k+1+0)).filter q++l.drop ((l.take (k+1+0)).filter q).length;rw[Nat.add_zero,H9,List.length_take,Nat.min_eq_left (by omega),List.take_append_drop]
  ·intro i G _;have G:k+1+i<l.length:=by grind
   have hle:((l.take (k+1+i)).filter q).length<=k+i:=by
    have E:=List.length_filter_le q (l.drop (k+1) |>.take i);rw[List.take_add,List.filter_append,List.length_append,H9];grind
   have ch:((l.take (k+1+i)).filter q).length<l.length:=by omega
   have lZ:((l.take (k+1+i)).filter q++l.drop ((l.take (k+1+i)).filter q).length).length=l.length:=by grind
   have hw:=bF (n:=((k+1+i:Nat):Int)+1) (by omega) (by omega);have gZ:=bF (n:=(((l.take (k+1+i)).filter q).length:Int)+1) (by omega) (by omega);have ds:k+1+i<((l.take (k+1+i)).filter q++l.drop ((l.take (k+1+i)).filter q).length).length:=by omega
   have Cq:((l.take (k+1+i)).filter q).length<((l.take (k+1+i)).filter q++l.drop ((l.take (k+1+i)).filter q).length).length:=by omega
   have jy:((l.take (k+1+i)).filter q++l.drop ((l.take (k+1+i)).filter q).length)[k+1+i]=l[k+1+i]:=by
    rw[List.getElem_append_right (by omega),List.getElem_drop];congr 1;omega
   obtain⟨b,aa⟩:=U _ (List.getElem_mem G);have af:q l[k+1+i]=!b:=by rw[<-al1,aa,A.fG]
   have pP:(l.take (k+1+(i+1))).filter q=(l.take (k+1+i)).filter q++(if (!b)=true then [l[k+1+i]] else []):=by
    rw[show k+1+(i+1)=k+1+i+1 from rfl,List.take_add_one,List.getElem?_eq_getElem G,Option.toList_some,List.filter_append,List.filter_cons,af,List.filter_nil]
   simp only[bZ,cX ds,if_true,dk ds,cP ds,cP Cq,A.br,jy,aa,A.aK,cp,gZ];simp only[Int.toNat_natCast];cases b with
   | true=>
    simp only[Bool.not_true,Bool.false_eq_true,if_false,A.aK,A.b7,hw,W.ho,List.append_nil]at pP ⊢;grind
   | false=>
    simp only[Bool.not_false,if_true,A.aK,A.b7,hw,W.ho]at pP ⊢;have es:(List.filter q (List.take (k+1+i) l)++List.drop (List.filter q (List.take (k+1+i) l)).length l).set (List.filter q (List.take (k+1+i) l)).length l[k+1+i]=(l.take (k+1+(i+1))).filter q++l.drop ((l.take (k+1+(i+1))).filter q).length:=by
     rw[pP,List.set_append_right _ _ (Nat.le_refl _),Nat.sub_self,List.drop_eq_getElem_cons ch,List.set_cons_zero];simp
    rw[es];have MB:(((l.take (k+1+i)).filter q).length:Int)+1=(((l.take (k+1+(i+1))).filter q).length:Int):=by grind
    grind
  ·intro _;have al:(l.drop (k+1)).length=l.length - (k+1):=by simp
   have bH:k+1+(l.drop (k+1)).length=l.length:=by omega
   have hle:(l.filter q).length<=l.length:=List.length_filter_le _ _;simp only[bH,List.take_length];rw[if_neg (by grind),A.aK]
 ·rw[Eb _ _ a_];have:(l.filter λs=>!(f s).val false)=l:=by
   simp_all
  simp only[decide_true,if_true,this,Nat.sub_self,List.replicate_zero,List.append_nil]
abbrev bH:bz:=((0,0,0,0,0,0),0)
def oh(c:aX)(w:z1')(u:Int):List bz:=((e9 c).filter λs=>decide (uv s=u)).map λs=>(s,ye s+w.getD (pL s).toNat 0)
def b4(c:aX)(w:z1')(u:Int):List bz:=fx h4 (oh c w u)
def qI(l:List bz)(i:Nat):Bool:=!(decide (0<i)&&decide ((l.getD i bH).2=(l.getD (i - 1) bH).2))&&decide (en (l.getD i bH).1=1+((i % 2:Nat):Int))
def eE(l:List bz):Bool:=(List.range l.length).all (qI l)
structure gJ(c:aX):Prop where
 Eh:b' c=0
 dZ:c.1.length<=3
 dP:c.2.1.length<=12
 hZ:c.2.2.1.length<=12
 n4:c.2.2.2.1.length<=4
 ir:iS c=true
 og:pO c.2.1
 Ot:pM c.2.2.2.2=true
 clk:∀ s∈c.1,-30<=s.1/\s.1<=s.2/\s.2<=30
 jh:∀ s∈c.2.1,k5 c.1.length s=true
 iC:AQ c.2.2.2.1=true
theorem mJ{c:aX}(h:b' c=0):gJ c:=by
 have aY:=h;unfold b' at h;split at h
 ·rename_i hc;split at h
  ·omega
  ·rename_i ax;have l3:=hc;unfold iS rJ at hc;simp only[Bool.and_eq_true,List.all_eq_true,Bool.not_eq_true',Bool.or_eq_false_iff,decide_eq_false_iff_not]at hc;obtain⟨⟨⟨⟨⟨⟨⟨⟨b6,a2⟩,a3⟩,a4⟩,a5⟩,gA⟩,gB⟩,h5⟩,a9⟩:=hc;refine⟨aY,by omega,by omega,by omega,by omega,l3,(uA _).1 (by grind),a5,λs aD=>?_,gB,a9⟩;have:=gA s aD;unfold sZ at this;simp only[Bool.and_eq_true,Bool.not_eq_true',decide_eq_false_iff_not,lI]at this;omega
 omega
theorem AU{n:Nat}{s:aZ}:k5 n s=true<->(0<=lH s/\lH s<=99)/\(0<=pL s/\pL s<=(n:Int) - 1)/\(0<=ye s/\ye s<=9999)/\(0<=uv s/\uv s<=9)/\(0<=iQ s/\iQ s<=99)/\(en s=1\/en s=2/\iQ s=0):=by
 unfold k5;simp only[Bool.and_eq_true,lI,Bool.or_eq_true,decide_eq_true_eq,and_assoc]
theorem gJ.al2{c:aX}(h:gJ c):∃ m,uz c.2.1 m:=by
 obtain⟨E,_⟩:=AR c.2.1 [] [] .nil;rw[List.nil_append]at E;obtain⟨m,_,eB⟩:=E h.og;grind
theorem gJ.Ou{c:aX}(h:gJ c):(e9 c).length<=12:=by
 obtain⟨m,eB⟩:=h.al2;have E:=alT eB (Ie h.ir).2;have U:=List.length_filter_le (λs:aZ=>!c.2.2.1.contains s.1) (dn c.2.1);have:=h.dP;unfold e9;omega
theorem v'{l:List aZ}{s:aZ}(h:s∈dn l):s∈l:=by
 unfold dn at h;grind
theorem al3{c:aX}{s:aZ}(h:s∈e9 c):s∈c.2.1:=v' (List.mem_filter.1 h).1
theorem gJ.AV{c:aX}(h:gJ c){s:aZ}(aD:s∈e9 c):k5 c.1.length s=true:=h.jh s (al3 aD)
def pQ(c:aX)(w:z1'):Prop:=w.length=c.1.length/\∀ n∈w,-30<=n/\n<=30
theorem pQ.at{c:aX}{w:z1'}(h:pQ c w)(ay:gJ c){s:aZ}(aD:s∈e9 c):0<=pL s/\pL s<(w.length:Int)/\-30<=w.getD (pL s).toNat 0/\w.getD (pL s).toNat 0<=30:=by
 have E:=(AU.1 (ay.AV aD)).2.1;have al:pL s<(w.length:Int):=by rw[h.1];omega
 exact⟨E.1,al,h.2 _ (x8 E.1 al)⟩
theorem Ei{c:aX}(h:gJ c)(w:z1')(u:Int):(b4 c w u).length<=12:=by
 unfold b4 oh;rw[H7,List.length_map];exact Nat.le_trans (List.length_filter_le _ _) h.Ou
theorem Ej{c:aX}{w:z1'}{u:Int}{e:bz}(h:e∈b4 c w u):e.1∈e9 c/\uv e.1=u/\e.2=ye e.1+w.getD (pL e.1).toNat 0:=by
 unfold b4 at h;rw[Xk]at h;unfold oh at h;grind
theorem XF(i:Nat):Int.tmod (i:Int) 2=((i % 2:Nat):Int):=by
 rfl
theorem al4(l:List bz)(i:Nat):(decide ((i:Int) > 0)&&decide ((l.getD i bH).2=(l.getD (i - 1) bH).2)||decide (en (l.getD i bH).1≠1+((i % 2:Nat):Int)))=!qI l i:=by
 unfold qI;simp
def km(a b:Int)(s:Int×Int):Int:=max 0 (min (b - 1) s.2 - max a s.1+1)
def mc(cl:z4')(a b:Int):Int:=cl.foldl (λn s=>n - km a b s) (b - a)
def XG(cl:z4'):Prop:=cl.length<=4/\∀ s∈cl,0<=s.1/\s.1<=s.2/\s.2<=9999
theorem gJ.Ov{c:aX}(h:gJ c):XG c.2.2.2.1:=by
 refine⟨h.n4,λs aD=>?_⟩;have:=h.iC;unfold AQ at this;rw[List.all_eq_true]at this;obtain⟨i,G,rfl⟩:=List.mem_iff_getElem.1 aD;have:=this i (by grind);unfold iR at this;rw[s4 G]at this;simp only[Bool.and_eq_true,lI,Bool.not_eq_true',decide_eq_false_iff_not]at this;omega
abbrev AW(x:aX×Int×Int):Prop:=XG x.1.2.2.2.1/\-100<=x.2.1/\x.2.1<=x.2.2/\x.2.2<=11000
theorem al5{a b:Int}{s:Int×Int}(a_:-100<=a)(aa:b<=11000)(aD:0<=s.1/\s.1<=s.2/\s.2<=9999):0<=km a b s/\km a b s<=20000:=by
 unfold km;omega
theorem XH{n:Int}:(if n > 0 then n else 0)=max 0 n:=by omega
theorem XI{a b:Int}:(if a<b then a else b)=min b a:=by omega
theorem al6{a b:Int}:(if a<b then a else b)=min a b:=by omega
theorem al7{a b:Int}:(if a > b then a else b)=max b a:=by omega
theorem al8{a b:Int}:(if a > b then a else b)=max a b:=by omega
abbrev wa:aO:=⟨.aB iA (.aB bp bp),bp,AW,λx=>mc x.1.2.2.2.1 x.2.1 x.2.2⟩
theorem al9(x):A.le (WN x) (wa.sh x):=A.bw λh=>by
 obtain⟨c,a,b⟩:=x;obtain⟨⟨E,U⟩,ah,a6,bL⟩:=h;change -100<=a at ah;change a<=b at a6;change b<=11000 at bL;change c.2.2.2.1.length<=4 at E;change ∀ s∈c.2.2.2.1,_ at U;unfold WN;have As:=bF (n:=b - a) (by omega) (by omega);rw[A.f_ c.2.2.2.1 (λi (n:Int)=>(a,b,n,c.2.2.2.1,(c.2.2.2.1.length:Int),(i:Int),())) (λs n=>.next (n - km a b s)) (λn=>.next (n,())) (λi n=>-(20000*(i:Int))<=n/\n<=20000) (b - a) ?_ ?_ ?_ ?_]
 ·rw[eL,A.aK];rfl
 ·grind
 ·omega
 ·intro i G n ax;have aD:=U _ (List.getElem_mem G);have hc:=al5 (a:=a) (b:=b) ah bL aD;have hw:=bF (n:=(i:Int)+1) (by omega) (by omega);refine⟨?_,λbe cY=>?_⟩
  ·simp only[Prod.dc,bZ,cX G,if_true,dk G,cP G,A.br,cp,hw];have ck:=bF (n:=b - 1) (by omega) (by omega);have da:=bF (n:=min (b - 1) c.2.2.2.1[i].2 - max a c.2.2.2.1[i].1) (by omega) (by omega);have eZ:=bF (n:=min (b - 1) c.2.2.2.1[i].2 - max a c.2.2.2.1[i].1+1) (by omega) (by omega);have AX:=bF (n:=n - km a b c.2.2.2.1[i]) (by omega) (by omega);simp only[ck,al6,al8,da,eZ,XH];rw[show max (min (b - 1) c.2.2.2.1[i].2 - max a c.2.2.2.1[i].1+1) 0=km a b c.2.2.2.1[i] from Int.max_comm _ _,AX];rfl
  grind
 simp
def lJ(t:pJ)(m:Int):Int:=if m>=t.2.2.2.2.1 then t.2.2.2.2.2.1 else min t.2.2.2.1 ((max 0 (m - t.1)+t.2.1 - 1) / t.2.1*t.2.2.1)
abbrev yj(x:pJ×Int):Prop:=pM x.1=true/\-100000<=x.2/\x.2<=20000
abbrev wb:aO:=⟨.aB Od bp,bp,yj,λx=>lJ x.1 x.2⟩
theorem Ig{t:pJ}:pM t=true<->(0<=t.1/\t.1<=9999)/\(1<=t.2.1/\t.2.1<=9999)/\(1<=t.2.2.2.2.1/\t.2.2.2.2.1<=9999)/\(0<=t.2.2.1/\t.2.2.1<=100000)/\(0<=t.2.2.2.1/\t.2.2.2.1<=100000)/\(0<=t.2.2.2.2.2.1/\t.2.2.2.2.2.1<=100000)/\(0<=t.2.2.2.2.2.2/\t.2.2.2.2.2.2<=100000):=by
 unfold pM;simp only[Bool.and_eq_true,lI,and_assoc]
theorem XJ{t:pJ}{m:Int}(h:yj (t,m)):0<=(max 0 (m - t.1)+t.2.1 - 1) / t.2.1/\(max 0 (m - t.1)+t.2.1 - 1) / t.2.1<=30000/\0<=(max 0 (m - t.1)+t.2.1 - 1) / t.2.1*t.2.2.1/\(max 0 (m - t.1)+t.2.1 - 1) / t.2.1*t.2.2.1<=3000000000:=by
 obtain⟨E,U,ah⟩:=h;change -100000<=m at U;change m<=20000 at ah;obtain⟨b6,a2,a3,a4,a5,gA,gB⟩:=(Ig (t:=t)).1 E;have dO:0<=(max 0 (m - t.1)+t.2.1 - 1) / t.2.1:=Int.ediv_nonneg (by omega) (by omega);have e3:(max 0 (m - t.1)+t.2.1 - 1) / t.2.1<=max 0 (m - t.1)+t.2.1 - 1:=Int.ediv_le_self _ (by omega);have mS:(max 0 (m - t.1)+t.2.1 - 1) / t.2.1<=30000:=by omega
 refine⟨dO,mS,Int.mul_nonneg dO a4.1,?_⟩;calc (max 0 (m - t.1)+t.2.1 - 1) / t.2.1*t.2.2.1<=30000*100000:=Int.mul_le_mul mS a4.2 a4.1 (by omega)
  _=3000000000:=by decide
theorem al_{t:pJ}{m:Int}(h:yj (t,m)):0<=lJ t m/\lJ t m<=100000:=by
 have:=XJ h;obtain⟨E,U,ah⟩:=h;obtain⟨b6,a2,a3,a4,a5,gA,gB⟩:=(Ig (t:=t)).1 E;unfold lJ;omega
theorem al'(x):A.le (WA x) (wb.sh x):=A.bw λh=>by
 obtain⟨t,m⟩:=x;have hu:=XJ h;obtain⟨E,U,ah⟩:=h;change -100000<=m at U;change m<=20000 at ah;obtain⟨b6,a2,a3,a4,a5,gA,gB⟩:=(Ig (t:=t)).1 E;have ck:=bF (n:=m - t.1) (by omega) (by omega);have da:=bF (n:=max 0 (m - t.1)+t.2.1) (by omega) (by omega);have eZ:=bF (n:=max 0 (m - t.1)+t.2.1 - 1) (by omega) (by omega);have AX:=bF (n:=(max 0 (m - t.1)+t.2.1 - 1) / t.2.1) (by omega) (by omega);have ama:=bF (n:=(max 0 (m - t.1)+t.2.1 - 1) / t.2.1*t.2.2.1) (by omega) (by omega);have Ek:Int.tdiv (max 0 (m - t.1)+t.2.1 - 1) t.2.1=(max 0 (m - t.1)+t.2.1 - 1) / t.2.1:=Int.tdiv_eq_ediv_of_nonneg (by omega);unfold WA;show _=A.pure (lJ t m);unfold lJ;simp only[Prod.dc,ck,XH,cp,da,eZ,Ek,AX,Int.mul_comm t.2.2.1,ama,XI,decide_eq_true_eq];rw[A.bq (show t.2.1≠0 from by omega)];grind
def gz(c:aX)(w:z1')(u:Int):List bz:=if eE (b4 c w u)=true then b4 c w u else []
def nr(l:List bz)(minute:Int):Int×Int:=l.foldl (λb e=>if e.2<=minute then (if en e.1=2 then (-1,e.2) else (iQ e.1,e.2)) else b) (-1,0)
def yk(c:aX)(w:z1')(minute:Int):Int:=((d_ 0 9).foldl (λn u=>if (nr (gz c w u) minute).1>=0 then n+1 else n) (0:Int))
def uB(l:List bz):List (bz×bz):=l.zip (l.drop 1)
def El(cl:z4')(jh:Int)(l:List bz):Option Int:=((uB l).find? λp=>lH p.1.1 == jh&&en p.1.1 == 1).map λp=>mc cl p.1.2 p.2.2
def iT(c:aX)(w:z1')(jh:Int):Option Int:=(d_ 0 9).findSome? λu=>El c.2.2.2.1 jh (gz c w u)
theorem amb{l:List bz}{i:Nat}(h:i+1<(fx h4 l).length):(fx h4 l)[i].2<=(fx h4 l)[i+1].2:=by
 have:=List.pairwise_iff_getElem.1 (alA l) i (i+1) (by omega) h (by omega);omega
theorem Em{c:aX}(ay:gJ c){w:z1'}(U:pQ c w){u:Int}{e:bz}(he:e∈b4 c w u):-30<=e.2/\e.2<=10029:=by
 obtain⟨E,_,ah⟩:=Ej he;have aQ:=(U.at ay E).2.2;have aS:=(AU.1 (ay.AV E)).2.2.1;omega
theorem AY{c:aX}{w:z1'}{u:Int}{e:bz}(he:e∈gz c w u):e∈b4 c w u:=by
 unfold gz at he;grind
theorem amc{c:aX}{w:z1'}{u:Int}{i:Nat}(h:i+1<(gz c w u).length):(gz c w u)[i].2<=(gz c w u)[i+1].2:=by
 have key:∀ l,gz c w u=l->∀ (h:i+1<l.length),l[i].2<=l[i+1].2:=by
  intro l al h;unfold gz at al;split at al
  ·subst al;exact amb h
  grind
 grind
theorem XK{c:aX}(ay:gJ c){w:z1'}(U:pQ c w){u:Int}{i:Nat}(h:i+1<(gz c w u).length):AW (c,(gz c w u)[i].2,(gz c w u)[i+1].2):=by
 have ah:=Em ay U (AY (List.getElem_mem (by omega:i<(gz c w u).length)));have a6:=Em ay U (AY (List.getElem_mem h));exact⟨ay.Ov,show -100<=(gz c w u)[i].2 by omega,amc h,show (gz c w u)[i+1].2<=11000 by omega⟩
theorem amd{l:List bz}{i:Nat}(h:i<(uB l).length):∃ U:i+1<l.length,(uB l)[i]=(l[i],l[i+1]):=by
 unfold uB at h ⊢;grind
theorem ame{a b:Int}{s:Int×Int}(h:b<=s.1):km a b s=0:=by unfold km;omega
def rL:z4'->Prop
 | []=>True
 | s::r=>s.1<=s.2/\(∀ t∈r,s.2<t.1)/\rL r
theorem Ow:∀ (cl:z4') (a b n:Int),cl.foldl (λn s=>n - km a b s) n=n - (cl.map (km a b)).sum
 | [],a,b,n=>by simp
 | s::r,a,b,n=>by simp only[List.foldl_cons,List.map_cons,List.sum_cons];rw[Ow r];omega
theorem XL:∀ (cl:z4') (a b:Int),rL cl->a<=b->(cl.map (km a b)).sum<=b - a
 | [],a,b,_,h=>by grind
 | s::r,a,b,⟨E,U,ah⟩,h=>by
  simp only[List.map_cons,List.sum_cons];by_cases aa:s.2+1<=b
  ·have aL:=XL r (max a (s.2+1)) b ah (by omega);have e:r.map (km a b)=r.map (km (max a (s.2+1)) b):=by
    refine List.map_congr_left λt aF=>?_;have:=U t aF;unfold km;omega
   rw[e];have:km a b s<=max a (s.2+1) - a:=by unfold km;omega
   omega
  ·have e:∀ l:z4',(∀ t∈l,b<=t.1)->(l.map (km a b)).sum=0:=by
    intro l;induction l with
    | nil=>simp
    | cons t l aL=>
     intro al;simp only[List.map_cons,List.sum_cons];rw[ame (al t (by simp)),aL λx ai=>al x (by grind)];rfl
   rw[e r λt aF=>by grind];unfold km;omega
theorem XM:∀ (cl:z4'),(∀ i,(h:i+1<cl.length)->cl[i].2<cl[i+1].1)->(∀ s∈cl,s.1<=s.2)->rL cl
 | [],_,_=>trivial
 | s::r,h,U=>by
  have M:rL r:=XM r (λi G=>by have:=h (i+1) (by grind);grind) λt aF=>U t (by grind);refine⟨U s (by simp),?_,M⟩;cases r with
  | nil=>simp
  | cons t r=>
   have aY:=h 0 (by simp);simp at aY;intro u hu;rcases List.mem_cons.1 hu with rfl | hu
   ·exact aY
   ·have:=M.2.1 u hu;grind
theorem gJ.amf{c:aX}(h:gJ c):rL c.2.2.2.1:=by
 have hc:=h.iC;unfold AQ at hc;rw[List.all_eq_true]at hc;refine XM _ (λi G=>?_) λs aD=>(h.Ov.2 s aD).2.1;have:=hc (i+1) (by grind);unfold iR at this;grind
theorem amg{cl:z4'}{a b:Int}(h:rL cl)(v8:a<=b):0<=mc cl a b:=by
 unfold mc;rw[Ow];have:=XL cl a b h v8;omega
theorem XN:∀ (cl:z4') (a b:Int),0<=(cl.map (km a b)).sum
 | [],_,_=>by simp
 | s::r,a,b=>by
  simp only[List.map_cons,List.sum_cons];have:=XN r a b;have:0<=km a b s:=by unfold km;omega
  omega
theorem amh{cl:z4'}{a b:Int}:mc cl a b<=b - a:=by
 unfold mc;rw[Ow];have:=XN cl a b;omega
theorem ami{cl:z4'}{jh:Int}{l:List bz}{m:Int}(h:El cl jh l=some m):∃ i,∃ G:i+1<l.length,l[i].1.1=jh/\en l[i].1=1/\m=mc cl l[i].2 l[i+1].2:=by
 unfold El at h;rw[Option.map_eq_some_iff]at h;obtain⟨p,aq,rfl⟩:=h;have U:=List.find?_some aq;obtain⟨i,G,rfl⟩:=List.mem_iff_getElem.1 (List.mem_of_find?_eq_some aq);obtain⟨ds,e⟩:=amd G;grind
theorem XO{c:aX}(ay:gJ c){w:z1'}(U:pQ c w){jh m:Int}(h:iT c w jh=some m):0<=m/\m<=11000:=by
 unfold iT at h;obtain⟨u,_,hu⟩:=List.exists_of_findSome?_eq_some h;obtain⟨i,G,_,_,rfl⟩:=ami hu;have aq:=XK ay U G;have hm:=amg ay.amf aq.2.2.1;have ah:=Em ay U (AY (List.getElem_mem (by omega:i<(gz c w u).length)));have a6:=Em ay U (AY (List.getElem_mem G));have bL:=@amh c.2.2.2.1 (gz c w u)[i].2 (gz c w u)[i+1].2;grind
def yl(c:aX)(w:z1')(amj:Int):Int:=(e9 c).foldl (λn s=>if (en s=1/\iQ s=amj)/\(iT c w (lH s)).isSome=true then n+lJ c.2.2.2.2 ((iT c w (lH s)).getD 0) else n) 0
def uC(c:aX)(jh:Int):Bool:=(e9 c).any λs=>lH s == jh&&en s == 1
def rM(c:aX)(w:z1'):Bool:=(List.range w.length).all λi=>bX (w.getD i 0) (c.1.getD i (0,0)).1 (c.1.getD i (0,0)).2
def h6(c:aX)(w:z1'):Bool:=decide (w.length=c.1.length)&&rM c w&&(d_ 0 9).all λu=>eE (b4 c w u)
theorem XP{c:aX}(ay:gJ c){w:z1'}(al:w.length=c.1.length)(h:rM c w=true):pQ c w:=by
 refine⟨al,λn ax=>?_⟩;obtain⟨i,G,rfl⟩:=List.mem_iff_getElem.1 ax;unfold rM at h;rw[List.all_eq_true]at h;have E:=h i (by grind);rw[s4 G,s4 (by omega:i<c.1.length),lI]at E;have:=ay.clk _ (List.getElem_mem (by omega:i<c.1.length));omega
def kn:z4'->Nat
 | []=>1
 | s::r=>(s.2 - s.1+1).toNat*kn r
def k6(c:aX):z4'->z1'->List (z1')
 | [],w=>if h6 c w=true then [w] else []
 | s::r,w=>(d_ s.1 s.2).flatMap λn=>k6 c r (w++[n])
theorem Ox{an β:Type}(f:an->List β)(k:Nat):∀ (l:List an),(∀ x∈l,(f x).length<=k)->(l.flatMap f).length<=l.length*k
 | [],_=>by simp
 | x::l,h=>by
  simp only[List.flatMap_cons,List.length_append,List.length_cons];have:=Ox f k l λy aT=>h y (by grind);grind
theorem Oy(c:aX):∀ (r:z4') (w:z1'),(k6 c r w).length<=kn r
 | [],w=>by unfold k6 kn;grind
 | s::r,w=>by
  unfold k6 kn;have:=Ox (λn=>k6 c r (w++[n])) (kn r) (d_ s.1 s.2) λn _=>Oy c r _;rw[x9]at this;omega
theorem XQ{an β:Type}(f:an->List β):∀ (l:List an) (b:List β),l.foldl (λb x=>b++f x) b=b++l.flatMap f
 | [],b=>by simp
 | x::l,b=>by simp only[List.foldl_cons,List.flatMap_cons];rw[XQ f l,List.append_assoc]
abbrev cF(c:aX):List (z1'):=k6 c c.1 []
def amk(c:aX):Prop:=b' c=0->kn c.1<=60
def fy(c:aX):Prop:=H4 c/\amk c
theorem fy.gY{c:aX}(h:fy c):jE c:=by
 obtain⟨⟨E,U,ah,a6⟩,_⟩:=h;exact⟨by omega,by omega,by omega,by omega⟩
def ey(c:aX)(b:Bool):List (z1')×Int:=if b' c≠0 then ([],b' c) else if b=false then ([],1) else if cF c=[] then ([],3) else (cF c,0)
theorem Oz(c:aX):∀ (r:z4') (w x:z1'),x∈k6 c r w->h6 c x=true
 | [],w,x,h=>by
  unfold k6 at h;grind
 | s::r,w,x,h=>by
  unfold k6 at h;rw[List.mem_flatMap]at h;obtain⟨n,_,ax⟩:=h;exact Oz c r _ x ax
theorem En{c:aX}(h:b' c=0){w:z1'}(hw:h6 c w=true):pQ c w:=by
 unfold h6 at hw;simp only[Bool.and_eq_true,decide_eq_true_eq]at hw;exact XP (mJ h) hw.1.1 hw.1.2
theorem Ih{c:aX}{w:z1'}(hw:h6 c w=true){u:Int}(hu:0<=u/\u<=9):eE (b4 c w u)=true:=by
 unfold h6 at hw;simp only[Bool.and_eq_true,List.all_eq_true]at hw;exact hw.2 u (oW.2 hu)
theorem aml{c:aX}{b:Bool}{w:z1'}(h:w∈(ey c b).1):b' c=0/\w∈cF c/\h6 c w=true/\pQ c w:=by
 unfold ey at h;split at h
 ·grind
 ·rename_i hc;have hc:b' c=0:=by omega
  split at h
  ·grind
  ·split at h
   ·grind
   ·have:=Oz c _ _ _ h;exact⟨hc,h,this,En hc this⟩
def Ii:Option (Int×Int)->Int->Int×Int
 | none,n=>(n,n)
 | some s,n=>(min s.1 n,max s.2 n)
def ym(l:z1'):Option (Int×Int):=l.foldl (λo n=>some (Ii o n)) none
def uD(l:z1'):Int×Int:=(ym l).getD (0,0)
theorem amm(a b c:Int):cq.sh (a,b,c)=A.pure (bX a b c):=rfl
def ko(c:aX)(jh:Int):z1'×Int:=if (ey c (uC c jh)).2≠0 then ([],(ey c (uC c jh)).2) else if (ey c (uC c jh)).1.filterMap (λw=>iT c w jh)=[] then ([],3) else ((ey c (uC c jh)).1.filterMap (λw=>iT c w jh),0)
def Ij(c:aX)(n:Int):(Int×Int)×Int:=(uD (ko c n).1,(ko c n).2)
abbrev Ik:aO:=⟨.aB iA bp,.aB mI bp,λx=>fy x.1,λx=>Ij x.1 x.2⟩
def rN(c:aX)(n:Int):(Int×Int)×Int:=(uD ((ko c n).1.map λm=>lJ c.2.2.2.2 m),(ko c n).2)
abbrev uE:aO:=⟨.aB iA bp,.aB mI bp,λx=>fy x.1,λx=>rN x.1 x.2⟩
def uF(c:aX)(g:Int):(Int×Int)×Int:=(uD ((ey c (bX g 0 99)).1.map λw=>yl c w g),(ey c (bX g 0 99)).2)
abbrev yn:aO:=⟨.aB iA bp,.aB mI bp,λx=>fy x.1,λx=>uF x.1 x.2⟩
def uG(c:aX)(t:Int):(Int×Int)×Int:=(uD ((ey c (bX t 0 9999)).1.map λw=>yk c w t*c.2.2.2.2.2.2.2.2.2.2),(ey c (bX t 0 9999)).2)
abbrev yo:aO:=⟨.aB iA bp,.aB mI bp,λx=>fy x.1,λx=>uG x.1 x.2⟩
def wc(u t:Int):Bool:=bX u 0 9&&bX t 0 9999
def Il(c:aX)(u t:Int):z1':=(ey c (wc u t)).1.map λw=>(nr (gz c w u) t).1
def ns(c:aX)(u t:Int):z1'×Int:=((d_ (-1) 99).filter λg=>(Il c u t).contains g,(ey c (wc u t)).2)
abbrev yp:aO:=⟨.aB iA (.aB bp bp),.aB fR bp,λx=>fy x.1,λx=>ns x.1 x.2.1 x.2.2⟩
def Eo(c:aX)(w:z1')(u t:Int):Bool:=decide ((nr (gz c w u) t).1>=0)&&decide (mc c.2.2.2.1 (nr (gz c w u) t).2 t>=c.2.2.2.2.2.2.2.2.1)
def o4(c:aX)(l:List (z1'))(u t:Int):Nat:=(l.filter λw=>Eo c w u t).length
def s6(c:aX)(t:Int):z1'×z1'×Int:=
 if (ey c (bX t 0 9999)).2≠0 then ([],[],(ey c (bX t 0 9999)).2)
 else ((d_ 0 9).filter (λu=>decide (o4 c (ey c (bX t 0 9999)).1 u t=(ey c (bX t 0 9999)).1.length)),(d_ 0 9).filter (λu=>decide (o4 c (ey c (bX t 0 9999)).1 u t > 0)),0)
abbrev Im:aO:=⟨.aB iA bp,.aB fR (.aB fR bp),λx=>fy x.1,λx=>s6 x.1 x.2⟩
theorem OA:∀ (l:List bz) (t:Int) (b:Int×Int),(∀ e∈l,(0<=iQ e.1))->(l.foldl (λb e=>if e.2<=t then (if en e.1=2 then (-1,e.2) else (iQ e.1,e.2)) else b) b=b\/∃ e∈l,e.2<=t/\l.foldl (λb e=>if e.2<=t then (if en e.1=2 then (-1,e.2) else (iQ e.1,e.2)) else b) b=(if en e.1=2 then (-1,e.2) else (iQ e.1,e.2)))
 | [],t,b,_=>.inl rfl
 | x::l,t,b,h=>by
  simp only[List.foldl_cons];by_cases ai:x.2<=t
  ·rw[if_pos ai];rcases OA l t (if en x.1=2 then (-1,x.2) else (iQ x.1,x.2)) λe he=>h e (by grind) with E | ⟨e,he,E,U⟩
   ·exact .inr ⟨x,by simp,ai,E⟩
   ·exact .inr ⟨e,by simp[he],E,U⟩
  ·rw[if_neg ai];rcases OA l t b λe he=>h e (by grind) with E | ⟨e,he,E,U⟩
   ·exact .inl E
   ·exact .inr ⟨e,by simp[he],E,U⟩
theorem amn{c:aX}(ay:gJ c){w:z1'}(U:pQ c w){u t:Int}(aF:t<=9999)(h:(nr (gz c w u) t).1>=0):AW (c,(nr (gz c w u) t).2,t):=by
 rcases OA (gz c w u) t (-1,0) (λe he=>((AU.1 (ay.AV (Ej (AY he)).1)).2.2.2.2.1).1) with E | ⟨e,he,E,ah⟩
 ·unfold nr at h;grind
 ·have:=Em ay U (AY he);have aN:(nr (gz c w u) t).2=e.2:=by
   unfold nr;grind
  exact⟨ay.Ov,by grind,by grind,show t<=11000 by omega⟩
abbrev kJ(z:hp):aX:=(z.1,z.2.1,z.2.2.1,z.2.2.2.1,z.2.2.2.2.1,z.dc,z.fv,z.gR,z.iz,z.jX,z.k2)
abbrev OB(z:hp):List aZ:=z.hR
abbrev XR(z:hp):List (Option dQ):=z.np
abbrev Ep(c:aX)(l:List aZ)(t:List (Option dQ)):hp:=(c.1,c.2.1,c.2.2.1,c.2.2.2.1,c.2.2.2.2.1,c.2.2.2.2.2.1,c.2.2.2.2.2.2.1,c.2.2.2.2.2.2.2.1,c.2.2.2.2.2.2.2.2.1,c.2.2.2.2.2.2.2.2.2.1,c.2.2.2.2.2.2.2.2.2.2,l,t,())
def uH(l:List aZ)(w:z1')(u:Int):List bz:=(l.filter λs=>decide (uv s=u)).map λs=>(s,ye s+w.getD (pL s).toNat 0)
theorem amo{l:List aZ}{w:z1'}{i:Nat}(h:i<l.length)(u:Int):uH (l.take (i+1)) w u=if l[i].2.2.2.2.1=u then uH (l.take i) w u++[(l[i],ye l[i]+w.getD (pL l[i]).toNat 0)] else uH (l.take i) w u:=by
 unfold uH;rw[List.take_add_one,List.getElem?_eq_getElem h,Option.toList_some,List.filter_append,List.map_append];grind
theorem XS(l:List aZ)(w:z1')(u:Int):(uH l w u).length<=l.length:=by
 unfold uH;grind
abbrev nu(c:aX)(w:z1'):List (List bz):=[b4 c w 0,b4 c w 1,b4 c w 2,b4 c w 3,b4 c w 4,b4 c w 5,b4 c w 6,b4 c w 7,b4 c w 8,b4 c w 9]
def s7(c:aX)(w:z1'):Bool:=(d_ 0 9).all λu=>eE (b4 c w u)
theorem amp(c:aX)(w:z1'):s7 c w=(eE (b4 c w 0)&&(eE (b4 c w 1)&&(eE (b4 c w 2)&&(eE (b4 c w 3)&&(eE (b4 c w 4)&&(eE (b4 c w 5)&&(eE (b4 c w 6)&&(eE (b4 c w 7)&&(eE (b4 c w 8)&&eE (b4 c w 9)))))))))):=by
 unfold s7;rw[show d_ 0 9=[0,1,2,3,4,5,6,7,8,9] from by decide];simp
abbrev amq(x:z1'×hp):Prop:=b' (kJ x.2)=0/\pQ (kJ x.2) x.1/\OB x.2=e9 (kJ x.2)
def uI(x:z1'×hp):A (Option dQ×Bool×hp):=A.dR (amq x) (if s7 (kJ x.2) x.1=true then (some (x.1,nu (kJ x.2) x.1),true,x.2) else (none,false,x.2))
theorem amr{bn aJ:Type}{body:Int×Int×Int×bn->A (W (Int×Int×Int×bn) aJ)}(l:List bz){a n:Int}{z:bn}(bad s8:aJ)
  (aa:∀ i,i<l.length->body (a,n,(i:Int),z)=A.pure (if (!qI l i)=true then .done bad else .next (a,n,((i+1:Nat):Int),z)))
  (he:body (a,n,(l.length:Int),z)=A.pure (.done s8)):A.loop body (a,n,0,z)=A.pure (if eE l=true then s8 else bad):=by
 rw[A.ed (List.range l.length) (λi (_:Unit)=>(a,n,(i:Int),z)) (λi b=>if (!qI l i)=true then .done bad else .next b) (λ_=>s8) () ?_ ?_ ?_]
 ·rw[kZ (q:=qI l) _ _ (λ_=>rfl)];rfl
 ·rfl
 ·intro i G b;have G:i<l.length:=by grind
  rw[aa i G,List.getElem_range];cases qI l i<;>rfl
 grind
theorem XT{X:Type}{l:List bz}(al:l.length<=12){i:Nat}(G:i<l.length){k:Int}(ak:k=1+((i % 2:Nat):Int))(aM B:A X):Oc l l[i] i k aM B=if (!qI l i)=true then aM else B:=by
 unfold Oc;have tU:=al4 l i;rw[Bool.or_comm,s4 G]at tU;have az:(decide (l[i].1.2.2.2.1≠k)||decide ((i:Int) > 0)&&decide (l[i].2=(List.getD l (Int.toNat (IntKind.wrap .i64 ((i:Int) - 1))) ((0,0,0,0,0,0),0)).2))=!qI l i:=by
  rw[<-tU,ak];rcases Nat.eq_zero_or_pos i with aY | aY
  ·simp_all
  ·rw[bF (n:=(i:Int) - 1) (by omega) (by omega),show ((i:Int) - 1).toNat=i - 1 from by omega]
 rw[az];have bL:decide ((i:Int) > 0)=true->(0<=IntKind.wrap .i64 ((i:Int) - 1)/\IntKind.wrap .i64 ((i:Int) - 1)<Int.ofNat (List.length l)):=λh=>by
  have h:=of_decide_eq_true h;rw[bF (n:=(i:Int) - 1) (by omega) (by omega),bZ];omega
 simp_all
theorem ams{l:List bz}(h:l.length<=12):AN (mb.sh,l,())=A.pure (fx h4 l,()):=A.bR ⟨h,rfl⟩ _
theorem amt{l:List aZ}{w:z1'}{c:aX}(al:l.length<=12)(aD:∀ s∈l,k5 c.1.length s=true)(hw:pQ c w){i:Nat}(G:i<l.length):0<=l[i].2.2.2.2.1/\l[i].2.2.2.2.1<=9/\(0<=l[i].2.1/\l[i].2.1<(w.length:Int))/\IntKind.wrap .i64 (l[i].2.2.1+w.getD l[i].2.1.toNat 0)=l[i].2.2.1+w.getD l[i].2.1.toNat 0:=by
 have h:=AU.1 (aD _ (List.getElem_mem G));have E:pL l[i]<(w.length:Int):=by rw[hw.1];omega
 have U:=hw.2 _ (x8 (d:=0) h.2.1.1 E);have ah:=h.2.2.1;have a6:=h.2.2.2.1;exact⟨a6.1,a6.2,⟨h.2.1.1,E⟩,bF (by grind) (by grind)⟩
abbrev oi(f:Nat->List bz)(c:hp):lG:=(f 0,f 1,f 2,f 3,f 4,f 5,f 6,f 7,f 8,f 9,c)
theorem OC{f g:Nat->List bz}(h:∀ u,u<10->f u=g u)(c:hp):oi f c=oi g c:=by
 simp only[oi,h 0 (by decide),h 1 (by decide),h 2 (by decide),h 3 (by decide),h 4 (by decide),h 5 (by decide),h 6 (by decide),h 7 (by decide),h 8 (by decide),h 9 (by decide)]
theorem OD(f:Nat->List bz)(c:hp):∀ k,k<10->mH k (oi f c)=f k
 | 0,_ | 1,_ | 2,_ | 3,_ | 4,_ | 5,_ | 6,_ | 7,_ | 8,_ | 9,_=>rfl
 | k+10,h=>by omega
theorem XU(f:Nat->List bz)(c:hp)(v:List bz):∀ k,k<10->HY k v (oi f c)=oi (λj=>if j=k then v else f j) c
 | 0,_ | 1,_ | 2,_ | 3,_ | 4,_ | 5,_ | 6,_ | 7,_ | 8,_ | 9,_=>rfl
 | k+10,h=>by omega
theorem XV{X:Type}(f:Nat->A X){v:Int}{u:Nat}(h:v=(u:Int)):∀ {n:Nat},u<=n->H0 f v n=f u
 | 0,hu=>by
  obtain rfl:u=0:=by omega
  rfl
 | n+1,hu=>by
  unfold H0;simp only[hO,bZ,h];by_cases e:u=n+1
  ·rw[if_pos (by omega),e]
  ·rw[if_neg (by omega)];exact XV f rfl (by omega)
theorem amu{c:aX}{w:z1'}(kf:∀ u,(b4 c w u).length<=12){z:hp}{g:Nat->List bz}{k:Nat}(ak:k<10)(ay:g k=b4 c w k) :
  A.loop (HZ k) (Int.ofNat k,Int.ofNat (List.length (b4 c w k)),0,w,oi g z)=A.pure (if eE (b4 c w k)=true then .next (Int.ofNat k,w,oi g z) else .done (.done (none,false,z))):=by
 have az:mH k (oi g z)=b4 c w k:=(OD g z k ak).trans ay;refine amr (b4 c w k) _ _ (λi G=>?_) ?_
 ·have hw:=bF (n:=(i:Int)+1) (by omega) (by have:=kf k;omega);unfold HZ;simp only[bZ,cX G,if_true,az,cP G,dk G,A.br];rcases Nat.mod_two_eq_zero_or_one i with hm | hm
  ·have au:decide (Int.tmod (i:Int) 2=1)=false:=by rw[XF,hm];rfl
   simp only[au,Bool.false_eq_true,if_false,A.Fv,A.aK,A.b7];rw[A.bq (by decide),az];refine (XT (kf k) G (by rw[hm];rfl) _ _).trans ?_;simp only[cp,hw];cases qI (b4 c w k) i<;>rfl
  ·have au:decide (Int.tmod (i:Int) 2=1)=true:=by rw[XF,hm];rfl
   simp only[au,if_true,A.Fv,A.aK,A.b7];rw[A.bq (by decide),az];refine (XT (kf k) G (by rw[hm];rfl) _ _).trans ?_;simp only[cp,hw];cases qI (b4 c w k) i<;>rfl
 ·unfold HZ;simp
theorem XW{c:aX}{w:z1'}(hlen:∀ u,(oh c w u).length<=12)(kf:∀ u,(b4 c w u).length<=12){z:hp}:∀ n k,k+n=10->
  D' AN mb.sh n k (w,oi (λu=>if u<k then b4 c w u else oh c w u) z)=A.pure (if ((List.range' k n).all λu=>eE (b4 c w u))=true then .next (w,oi (λu=>b4 c w u) z) else .done (none,false,z))
 | 0,k,h=>by
  unfold D';rw[OC (g:=λu=>b4 c w u) λu hu=>if_pos (by omega)];rfl
 | n+1,k,h=>by
  have ak:k<10:=by omega
  have aD:AN (mb.sh,oh c w k,())=A.pure (b4 c w k,()):=ams (hlen k);have hw:=bF (n:=(k:Int)+1) (by omega) (by omega);have aN:HY k (b4 c w k) (oi (λu=>if u<k then b4 c w u else oh c w u) z)=oi (λu=>if u<k+1 then b4 c w u else oh c w u) z:=by
   rw[XU _ _ _ _ ak];exact OC (λu hu=>by
    by_cases e:u=k
    ·subst e;simp
    ·by_cases aN:u<k
     ·simp[e,aN,show u<k+1 by omega]
     ·simp[e,aN,show ¬u<k+1 by omega]) _
  unfold D';dsimp only;rw[A.bq (by simp only[bZ];omega),OD _ _ _ ak,if_neg (Nat.lt_irrefl k),aD,A.aK];simp only[aN];rw[amu kf ak (if_pos (Nat.lt_succ_self k)),A.aK,List.range'_succ,List.all_cons];cases eE (b4 c w k) with
  | false=>rfl
  | true=>
   simp only[if_true,Bool.true_and,A.b7];rw[A.bq (by simp only[bZ,cp,hw];omega)];exact XW hlen kf n (k+1) (by omega)
theorem OE(x):A.le (Xb o3.sh AN mb.sh x) (uI x):=A.bw λh=>by
 obtain⟨w,z⟩:=x;obtain⟨E,U,ah⟩:=h;change b' (kJ z)=0 at E;change pQ (kJ z) w at U;change z.hR=e9 (kJ z) at ah;show _=A.pure (if s7 (kJ z) w=true then (some (w,nu (kJ z) w),true,z) else (none,false,z));generalize uc:kJ z=c at *
 have ay:=mJ E;have al:=ay.Ou;have ph:∀ s∈e9 c,k5 c.1.length s=true:=λs aD=>ay.AV aD;have ax:=ay.dZ;have hlen:∀ u,(oh c w u).length<=12:=λu=>Nat.le_trans (XS (e9 c) w u) al;have kf:∀ u,(b4 c w u).length<=12:=λu=>Ei ay w u;have pR:∀ u,uH z.hR w u=oh c w u:=λu=>by rw[ah];rfl
 rw[<-ah]at al ph;clear ah;unfold Xb;rw[show o3.sh w=A.pure w from A.bR (show w.length<=3000000 by have:=U.1;omega) _];simp only[A.aK,A.b7,A.br];refine (congrArg (λm=>A.bind m _) (A.ed z.hR (λi (_:Unit)=>(w,z.hR,(z.hR.length:Int),(i:Int),w,oi (λu=>uH (z.hR.take i) w u) z)) (λ_ b=>.next b) (λ_=>.next (w,oi (λu=>oh c w u) z)) () ?_ ?_ ?_)).trans ?_
 ·simp only[bZ,List.take_zero];rfl
 ·intro i G b;obtain⟨aQ,aS,bN,fm⟩:=amt (c:=c) al ph U G;have hw:=bF (n:=(i:Int)+1) (by omega) (by omega);have iH:∀ u,bQ (Add.add (uH (z.hR.take i) w u).length (Add.add 0 1)):=λu=>fw (by have:=XS (z.hR.take i) w u;rw[List.length_take]at this;simp only[hO];omega);obtain⟨u,hu⟩:∃ u:Nat,z.hR[i].2.2.2.2.1=(u:Int):=⟨z.hR[i].2.2.2.2.1.toNat,by omega⟩
  have amv:u<=9:=by omega
  simp only[bZ,cX G,if_true,dk G,cP G,A.br];rw[A.bq (show (0<=z.hR[i].2.2.2.2.1/\z.hR[i].2.2.2.2.1<((10:Nat):Int)) from⟨aQ,by omega⟩),XV _ hu amv];unfold Xa;simp only[dk G,bZ,OD _ _ u (show u<10 by omega),XU _ _ _ u (show u<10 by omega)];rw[A.bq trivial,A.bq (by omega),A.bq bN,A.bq (iH _),A.bq trivial,A.bq (by omega),A.aK,A.b7];simp only[cp,hw,fm];refine congrArg (λq=>A.pure (W.next (w,z.hR,(z.hR.length:Int),((i:Int)+1),w,q))) ?_;refine OC (λj aG=>?_) _;rw[amo G,hu];by_cases e:j=u
  ·subst e;rw[if_pos rfl,if_pos rfl,<-hu]
  ·rw[if_neg e,if_neg (by omega)]
 ·intro b;simp only[List.take_length,pR];simp
 ·rw[eL,A.aK,A.b7];have bH:=XW (c:=c) (w:=w) hlen kf (z:=z) 10 0 rfl;rw[A.bq (by decide)];rw[show (λu:Nat=>if u<0 then b4 c w u else oh c w u)=λu:Nat=>oh c w u from funext λu=>if_neg (Nat.not_lt_zero u)]at bH;rw[bH,A.aK];have az:((List.range' 0 10).all λu=>eE (b4 c w u))=s7 c w:=by
   rw[amp];simp[List.range']
  rw[az];cases s7 c w<;>rfl
abbrev iB(c:aX)(w:z1'):Option dQ:=some (w,nu c w)
abbrev amw(f:Nat)(x:z1'×hp):Prop:=b' (kJ x.2)=0/\OB x.2=e9 (kJ x.2)/\x.1.length<=(kJ x.2).1.length/\(kJ x.2).1.length<x.1.length+f/\rM (kJ x.2) x.1=true/\(XR x.2).length+kn ((kJ x.2).1.drop x.1.length)<=60
def yq(f:Nat)(x:z1'×hp):A hp:=A.dR (amw f x) (Ep (kJ x.2) (OB x.2) (XR x.2++(k6 (kJ x.2) ((kJ x.2).1.drop x.1.length) x.1).map (iB (kJ x.2))))
theorem amx(x):¬(yq 0 x).cr:=λh=>by have E:=h.2.2.1;have U:=h.2.2.2.1;omega
theorem amy{c:aX}{w:z1'}{n:Int}:rM c (w++[n])=(rM c w&&bX n (c.1.getD w.length (0,0)).1 (c.1.getD w.length (0,0)).2):=by
 unfold rM;grind
theorem amz{c:aX}{w:z1'}(al:w.length=c.1.length)(h:rM c w=true):h6 c w=s7 c w:=by
 unfold h6 s7;grind
set_option maxHeartbeats 1000000 in
theorem amA(f:Nat)(x):A.le (Xd (yq f) uI x) (yq (f+1) x):=A.bw λh=>by
 obtain⟨w,a0,b6,a2,a3,a4,a5,gA,gB,h5,a9,hD,l,t,u⟩:=x;obtain⟨E,U,ah,a6,bL,dv⟩:=h;change b' (a0,b6,a2,a3,a4,a5,gA,gB,h5,a9,hD)=0 at E;change l=e9 (a0,b6,a2,a3,a4,a5,gA,gB,h5,a9,hD) at U;change w.length<=a0.length at ah;change a0.length<w.length+(f+1) at a6;change rM (a0,b6,a2,a3,a4,a5,gA,gB,h5,a9,hD) w=true at bL;change t.length+kn (a0.drop w.length)<=60 at dv;show _=A.pure (Ep (a0,b6,a2,a3,a4,a5,gA,gB,h5,a9,hD) l (t++(k6 (a0,b6,a2,a3,a4,a5,gA,gB,h5,a9,hD) (a0.drop w.length) w).map (iB (a0,b6,a2,a3,a4,a5,gA,gB,h5,a9,hD))));have ay:=mJ E;have ax:a0.length<=3:=ay.dZ;unfold Xd;simp only[Prod.dc,Prod.fv,Prod.gR,Prod.iz,Prod.jX,Prod.k2,Prod.hR,Prod.np,Prod.pK,Prod.sT,Prod.yb,Prod.N1,Prod.D2,Prod.D3,Prod.D4,bZ,A.br];by_cases al:w.length=a0.length
 ·rw[if_pos (by simp only[decide_eq_true_eq];omega)];have amB:pQ (a0,b6,a2,a3,a4,a5,gA,gB,h5,a9,hD) w:=XP ay al bL;have ag:uI (w,a0,b6,a2,a3,a4,a5,gA,gB,h5,a9,hD,l,t,())=A.pure (if s7 (a0,b6,a2,a3,a4,a5,gA,gB,h5,a9,hD) w=true then (iB (a0,b6,a2,a3,a4,a5,gA,gB,h5,a9,hD) w,true,a0,b6,a2,a3,a4,a5,gA,gB,h5,a9,hD,l,t,()) else (none,false,a0,b6,a2,a3,a4,a5,gA,gB,h5,a9,hD,l,t,())):=A.bR ⟨E,amB,U⟩ _;rw[ag,A.aK,al,List.drop_length];unfold k6;rw[amz al bL];cases ak:s7 (a0,b6,a2,a3,a4,a5,gA,gB,h5,a9,hD) w with
  | true=>
   rw[if_pos rfl,if_pos rfl,A.bq (fw (by simp only[hO];omega)),A.aK,A.b7];rfl
  | false=>
   simp only[Bool.false_eq_true,if_false,A.aK,A.b7,List.map_nil,List.append_nil]
 ·have ch:w.length<a0.length:=by omega
  rw[if_neg (by simp only[decide_eq_true_eq];omega),A.bq (show (0:Int)<=(w.length:Int)/\(w.length:Int)<(a0.length:Int) by omega)];rw[List.drop_eq_getElem_cons ch]at dv ⊢;simp only[Int.toNat_natCast,s4 ch];have aD:=ay.clk _ (List.getElem_mem ch);change -30<=a0[w.length].1/\a0[w.length].1<=a0[w.length].2/\a0[w.length].2<=30 at aD;have nv:a0.getD w.length (0,0)=a0[w.length]:=s4 ch;generalize a0[w.length]=s at *
  unfold kn at dv;have Er:∀ n (ts:List (Option dQ)),s.1<=n->n<=s.2->ts.length+kn (a0.drop (w.length+1))<=60->yq f (w++[n],a0,b6,a2,a3,a4,a5,gA,gB,h5,a9,hD,l,ts,())=A.pure (Ep (a0,b6,a2,a3,a4,a5,gA,gB,h5,a9,hD) l (ts++(k6 (a0,b6,a2,a3,a4,a5,gA,gB,h5,a9,hD) (a0.drop (w.length+1)) (w++[n])).map (iB (a0,b6,a2,a3,a4,a5,gA,gB,h5,a9,hD)))):=by
   intro n ts aQ aS bN;refine (A.bR ⟨E,U,?_,?_,?_,?_⟩ _).trans (congrArg A.pure ?_)
   ·show Ep (a0,b6,a2,a3,a4,a5,gA,gB,h5,a9,hD) l (ts++(k6 (a0,b6,a2,a3,a4,a5,gA,gB,h5,a9,hD) (a0.drop (w++[n]).length) (w++[n])).map (iB (a0,b6,a2,a3,a4,a5,gA,gB,h5,a9,hD)))=_;rw[List.length_append,List.length_singleton]
   ·show (w++[n]).length<=a0.length;simp;omega
   ·show a0.length<(w++[n]).length+f;simp;omega
   ·show rM (a0,b6,a2,a3,a4,a5,gA,gB,h5,a9,hD) (w++[n])=true;rw[amy,bL];show (true&&bX n (a0.getD w.length (0,0)).1 (a0.getD w.length (0,0)).2)=true;rw[nv,Bool.true_and];exact lI.2 ⟨aQ,aS⟩
   ·show ts.length+kn (a0.drop (w++[n]).length)<=60;rw[List.length_append,List.length_singleton];exact bN
  rw[A.f_ (d_ s.1 s.2) (λi (ts:List (Option dQ))=>(w,(w.length:Int),s.1+(i:Int),a0,b6,a2,a3,a4,a5,gA,gB,h5,a9,hD,l,ts,())) (λn ts=>.next (ts++(k6 (a0,b6,a2,a3,a4,a5,gA,gB,h5,a9,hD) (a0.drop (w.length+1)) (w++[n])).map (iB (a0,b6,a2,a3,a4,a5,gA,gB,h5,a9,hD)))) (λts=>(a0,b6,a2,a3,a4,a5,gA,gB,h5,a9,hD,l,ts,())) (λi ts=>ts.length<=t.length+i*kn (a0.drop (w.length+1))) t ?_ ?_ ?_ ?_]
  ·rw[eL,XQ (f:=λn=>(k6 (a0,b6,a2,a3,a4,a5,gA,gB,h5,a9,hD) (a0.drop (w.length+1)) (w++[n])).map (iB (a0,b6,a2,a3,a4,a5,gA,gB,h5,a9,hD)))];rw[<-List.map_flatMap];rfl
  ·rw[Int.natCast_zero,Int.add_zero]
  ·simp
  ·intro i G ts ag;rw[x9]at G;have hw:=bF (n:=s.1+(i:Int)+1) (by omega) (by omega);have au:decide (s.1+(i:Int)<=s.2)=true:=by simpa using (by omega:s.1+(i:Int)<=s.2)
   have hle:=Oy (a0,b6,a2,a3,a4,a5,gA,gB,h5,a9,hD) (a0.drop (w.length+1)) (w++[s.1+(i:Int)]);have amC:ts.length+kn (a0.drop (w.length+1))<=60:=by
    have:(i+1)*kn (a0.drop (w.length+1))<=(s.2 - s.1+1).toNat*kn (a0.drop (w.length+1)):=Nat.mul_le_mul_right _ (by omega);rw[Nat.succ_mul]at this;omega
   refine⟨?_,λbe cY=>?_⟩
   ·simp only[Int.toNat_natCast,nv,au,if_true,cp,hw,DR,List.take_length];rw[A.bq (by omega),A.bq ⟨by omega,by omega,trivial,by omega⟩,A.bq ⟨by simp only[hO];omega,fw (by simp only[hO];omega)⟩,Er _ ts (by omega) (by omega) amC,A.aK];simp only[W.ho];rw[show s.1+((i+1:Nat):Int)=s.1+(i:Int)+1 from by omega]
   ·simp only[W.next.injEq,DR]at cY;subst cY;rw[List.length_append,List.length_map,Nat.succ_mul];omega
  ·intro ts ag;rw[x9];have au:decide (s.1+(((s.2 - s.1+1).toNat:Nat):Int)<=s.2)=false:=by simpa using (by omega:s.2<s.1+(((s.2 - s.1+1).toNat:Nat):Int))
   simp only[Int.toNat_natCast,nv,au,Bool.false_eq_true,if_false,A.aK];rw[A.bq (by omega)]
abbrev uJ:aX:=([],[],[],[],0,0,0,0,0,0,0)
abbrev AZ:aO:=⟨.aB hq (.bG iA),dj,λx=>∃ c:aX,x.2=some c/\c.2.2.1.length<2 ^ 63,λx=>(x.2.getD uJ).2.2.1.contains (lH x.1)⟩
theorem OF(x):A.le (WQ o2.sh x) (AZ.sh x):=A.bw λh=>by
 obtain⟨s,o⟩:=x;obtain⟨c,hc,h⟩:=h;change o=some c at hc;subst hc;unfold WQ;simp only[Option.getD_some];rw[show o2.sh (c.2.2.1,s.1)=A.pure (c.2.2.1.contains s.1) from A.bR h _,A.aK]
abbrev uK(c:aX):ea:=(c,e9 c,(cF c).map (iB c))
def Es(c:aX)(f:Option ea->A Bool):Bool:=(f (some (c,e9 c,[]))).val false
def s9(c:aX)(b:Bool):Option ea×Int:=if b' c≠0 then (none,b' c) else if b=false then (none,1) else if cF c=[] then (none,3) else (some (uK c),0)
abbrev we:aO:=⟨.aB iA (.fn (.bG sV) .bool),.aB (.bG sV) bp,λx=>fy x.1/\(b' x.1=0->∃ b,x.2 (some (x.1,e9 x.1,[]))=A.pure b),λx=>s9 x.1 (Es x.1 x.2)⟩
theorem amD{c:aX}(ay:gJ c):If ((λs=>AZ.sh (s,some c)),dn c.2.1,())=A.pure ((0,(e9 c).length),e9 c++List.replicate ((dn c.2.1).length - (e9 c).length) jz,()):=by
 have af:∀ s,AZ.sh (s,some c)=A.pure (c.2.2.1.contains s.1):=λs=>A.bR ⟨c,rfl,by have:=ay.hZ;omega⟩ _;have e:((dn c.2.1).filter λs=>!(AZ.sh (s,some c)).val false)=e9 c:=by
  unfold e9;simp_all
 have:=alQ c.2.1;refine (A.bR ⟨show (dn c.2.1).length<2 ^ 63 by omega,λs _=>⟨_,af s⟩⟩ _).trans (congrArg A.pure ?_);grind
set_option maxHeartbeats 1000000 in
theorem amE(x):A.le (Wt g_.sh Ic If (yq 5) AZ.sh x) (we.sh x):=A.bw λh=>by
 obtain⟨c,f⟩:=x;obtain⟨h,ao⟩:=h;change fy c at h;change b' c=0->∃ b,f (some (c,e9 c,[]))=A.pure b at ao;unfold Wt;show _=A.pure (s9 c (Es c f));unfold s9;rw[show g_.sh c=A.pure (b' c) from A.bR h.gY _];simp only[A.aK,decide_eq_true_eq];by_cases hc:b' c=0
 ·simp only[hc,ne_eq,not_true_eq_false,if_false];have ay:=mJ hc;obtain⟨b,aa⟩:=ao hc;have E:=ay.dZ;have hid:=Ie ay.ir;rw[show Ic (c.2.1,())=A.pure (true,dn c.2.1,()) from A.bR ⟨hid,(uA _).2 ay.og⟩ _,A.aK];simp only[A.br];rw[amD ay,A.aK];have pP:List.drop 0 (List.take (e9 c).length (e9 c++List.replicate ((dn c.2.1).length - (e9 c).length) jz))=e9 c:=by
   rw[List.drop_zero,List.take_left]
  simp only[pP];unfold Es;simp only[aa,A.fG,A.aK];cases b with
  | false=>simp
  | true=>
   simp only[Bool.not_true,Bool.false_eq_true,if_false,A.aK,A.b7,reduceCtorEq];simp only[Prod.dc,Prod.fv,Prod.gR,Prod.iz,Prod.jX,Prod.k2,Prod.hR,Prod.np,Prod.pK,Prod.sT,Prod.yb,Prod.N1,Prod.D2,Prod.D3,Prod.D4,pP];have nv:yq 5 ([],c.1,c.2.1,c.2.2.1,c.2.2.2.1,c.2.2.2.2.1,c.2.2.2.2.2.1,c.2.2.2.2.2.2.1,c.2.2.2.2.2.2.2.1,c.2.2.2.2.2.2.2.2.1,c.2.2.2.2.2.2.2.2.2.1,c.2.2.2.2.2.2.2.2.2.2,e9 c,[],())=A.pure (Ep c (e9 c) ((cF c).map (iB c))):=A.bR ⟨hc,rfl,Nat.zero_le _,show c.1.length<0+5 by omega,rfl,show 0+kn c.1<=60 by have:=h.2 hc;omega⟩ _;rw[nv,A.aK];simp only[bZ,List.length_map];by_cases aF:cF c=[]
   ·simp[aF]
   ·have:¬((cF c).length:Int)=0:=λe=>aF (List.eq_nil_of_length_eq_zero (by omega));simp only[this,aF,if_false]
 ·simp only[hc,ne_eq,not_false_eq_true,if_true]
def wg(l:List (Option dQ))(f:Option dQ->A (Int×Bool)):Option (Int×Int):=ym (l.filterMap λt=>if ((f t).val (0,false)).2=true then some ((f t).val (0,false)).1 else none)
abbrev A0:aO:=⟨.aB (.bG sV) (.fn (.bG yc) (.aB bp .bool)),.aB mI .bool,λx=>∃ b:ea,x.1=some b/\b.2.2.length<=60/\∀ t∈b.2.2,∃ r,x.2 t=A.pure r,λx=>((wg (x.1.getD (uJ,[],[])).2.2 x.2).getD (0,0),(wg (x.1.getD (uJ,[],[])).2.2 x.2).isSome)⟩
theorem XX{an β gC:Type}(g:an->Option β)(h:gC->β->gC):∀ (l:List an) (b:gC),l.foldl (λb x=>(g x).elim b λy=>h b y) b=(l.filterMap g).foldl h b
 | [],b=>rfl
 | x::l,b=>by
  simp only[List.foldl_cons,List.filterMap_cons];rw[XX g h l];grind
theorem amF(x):A.le (WC x) (A0.sh x):=A.bw λh=>by
 obtain⟨o,f⟩:=x;obtain⟨b,aa,al,ao⟩:=h;change o=some b at aa;subst aa;unfold WC;show _=A.pure ((wg b.2.2 f).getD (0,0),(wg b.2.2 f).isSome);simp only[Option.isSome_some,A.br,Option.getD_some];change b.2.2.length<=60 at al;change ∀ t∈b.2.2,∃ r,f t=A.pure r at ao;generalize b.2.2=l at *
 rw[A.ed l (λi (o:Option (Int×Int))=>(f,o.isSome,l,(l.length:Int),(i:Int),o.getD (0,0),())) (λt o=>.next ((if ((f t).val (0,false)).2=true then some ((f t).val (0,false)).1 else none).elim o λn=>some (Ii o n))) (λo=>.next (o.isSome,o.getD (0,0),())) none ?_ ?_ ?_]
 ·rw[eL,XX (λt=>if ((f t).val (0,false)).2=true then some ((f t).val (0,false)).1 else none) (λo n=>some (Ii o n)),A.aK];rfl
 ·rfl
 ·intro i G o;have hw:=bF (n:=(i:Int)+1) (by omega) (by omega);obtain⟨r,M⟩:=ao _ (List.getElem_mem G);simp only[Prod.dc,bZ,cX G,if_true,dk G,cP G,A.br,cp,hw,M,A.aK,A.fG,W.ho];obtain⟨n,cb⟩:=r;cases cb with
  | false=>simp_all
  | true=>
   cases o with
   | none=>simp only[Bool.not_true,Bool.false_eq_true,if_false,if_true,Option.isSome_none,Bool.not_false,A.aK,A.b7,hw,Option.elim];rfl
   | some s=>
    simp only[Bool.not_true,Bool.false_eq_true,if_false,if_true,Option.isSome_some,A.aK,A.b7,hw,Option.elim,Option.getD_some];rw[XI,al7];rfl
 simp
section
variable {an:Type}
def XY(x:Nat×List (Int×an)×(Nat×(z1'->Prop)×z1'×Bool)×Unit):A ((Nat×(z1'->Prop)×z1'×Bool)×Unit):=
 A.bind (A.pure ()) λy=>A.loop (λ(D:Nat×(Nat×(z1'->Prop)×z1'×Bool)×(Option (Int×an)×List (Int×an))×Unit)=>
 A.bind (Gx D.2.2.1.2) λy=>if Option.isSome y=true then A.bind (A.ae (Option.isSome (n2 D.2.2.1.1 D.2.2.1.2 y)=true) (A.pure ())) λb2
 =>A.bind (A.ae (D.1=D.2.1.1/\D.2.1.2.2.2=false/\∃ (T:z1'),D.2.1.2.1 (D.2.1.2.2.1++Option.getD (Option.map (λx=>x.1) (n2
 D.2.2.1.1 D.2.2.1.2 y)) 0::T)) (A.any λx=>True)) λdy=>if (!dy)=true then A.bind (A.pure ((D.2.1.1,D.2.1.2.1,D.2.1.2.2.1++
 [Option.getD (Option.map (λx=>x.1) (n2 D.2.2.1.1 D.2.2.1.2 y)) 0],!dy),())) λr=>A.pure (W.done r) else A.pure (W.next (D.1,(D.2.1.1,D.2.1.2.1,D.2.1.2.2.1++[Option.getD (Option.map (λx=>x.1) (n2 D.2.2.1.1 D.2.2.1.2 y)) 0],!dy),(n2 D.2.2.1.1 D.2.2.1.2 y,CX D.2.2.1.2 y),())) else A.bind (A.pure (D.2.1,())) λr=>A.pure (W.done r)) (x.1,x.2.2.1,(none,x.2.1),())
theorem XZ{β:Type}:∀ (l:List β) (i:Nat) (h:i<l.length),(l[i]::l.eraseIdx i).Perm l
 | x::l,0,_=>.refl _
 | x::l,i+1,h=>by
  simp only[List.getElem_cons_succ,List.eraseIdx_cons_succ];exact (List.Perm.swap x _ _).trans ((XZ l i (by grind)).cons x)
theorem X0(l:Nat)(m:List (Int×an)):A.cy (XY (l,m,(l,jY (some m),[],false),())) λy=>y.1.2.2.2=false->jY (some m) y.1.2.2.1:=by
 unfold XY;rw[A.aK];refine A.BV (λD=>∃ p c cj,D=(l,(l,jY (some m),p,false),(c,cj),())/\(m.map (·.1)).Perm (p++cj.map (·.1))) (λD=>D.2.2.1.2.length) ?_ _ ⟨[],none,m,rfl,.refl _⟩;rintro D ⟨p,c,cj,rfl,aq⟩;simp only;rw[A.gb];refine⟨trivial,λy aT=>?_⟩;cases y with
 | none=>
  have M:cj=[]:=aT;subst M;simp only[Option.isSome_none,Bool.false_eq_true,if_false,A.aK];refine A.eb.2 λ_=>uy.2 (by grind)
 | some i=>
  have G:i<cj.length:=aT;have ax:n2 c cj (some i)=some cj[i]:=List.getElem?_eq_getElem G;have M:CX cj (some i)=cj.eraseIdx i:=rfl;have Et:(m.map (·.1)).Perm (p++cj[i].1::(cj.eraseIdx i).map (·.1)):=aq.trans (List.Perm.append_left p ((XZ cj i G).symm.map (·.1)));simp only[Option.isSome_some,if_true,ax,M,A.br,A.aK,Option.map_some,Option.getD_some];rw[A.gb,A.kP];refine⟨⟨trivial,trivial,(cj.eraseIdx i).map (·.1),uy.2 Et⟩,⟨true,trivial⟩,λb _=>?_⟩;cases b with
  | false=>
   simp only[Bool.not_false,if_true,A.aK];exact A.eb.2 λh=>by cases h
  | true=>
   simp only[Bool.not_true,Bool.false_eq_true,if_false];refine A.eb.2 ⟨⟨p++[cj[i].1],some cj[i],cj.eraseIdx i,rfl,by grind⟩,?_⟩;grind
end
theorem amG(l:Nat)(m:z4'):A.cy (Oa (l,m,(l,jY (some m),[],false),())) λy=>y.1.2.2.2=false->jY (some m) y.1.2.2.1:=X0 l m
theorem amH(l:Nat)(m:List (Int×aZ)):A.cy (Ob (l,m,(l,jY (some m),[],false),())) λy=>y.1.2.2.2=false->jY (some m) y.1.2.2.1:=X0 l m
def ds(cl:z4'):List bz->List bz
 | a::b::r=>(a.1,mc cl a.2 b.2)::ds cl r
 | _=>[]
def Eu(c:aX)(fY:List (List bz)):Prop:=fY.length=10/\∀ l∈fY,l.length<=12/\∀ i,(h:i+1<l.length)->AW (c,l[i].2,l[i+1].2)
def pS(c:aX)(fY:List (List bz)):List bz:=fY.flatMap (ds c.2.2.2.1)
def s_(x:Option (Option dQ)×Option (Option ea))(L:List bz):Prop:=∃ t b,x.1=some (some t)/\x.2=some (some b)/\Eu b.1 t.2/\L=pS b.1 t.2
theorem amI{cl:z4'}{l:List bz}{i:Nat}(h:i+1<l.length):ds cl (l.drop i)=(l[i].1,mc cl l[i].2 l[i+1].2)::ds cl (l.drop (i+2)):=by
 rw[List.drop_eq_getElem_cons (by omega:i<l.length),List.drop_eq_getElem_cons h];rfl
theorem amJ{cl:z4'}{l:List bz}{i:Nat}(h:¬i+1<l.length):ds cl (l.drop i)=[]:=by
 have:(l.drop i).length<=1:=by grind
 match h:l.drop i with
 | []=>rfl
 | [_]=>rfl
 | _::_::_=>grind
set_option maxHeartbeats 1000000 in
theorem amK(fj:Nat)(t:dQ)(b:ea)(h:Eu b.1 t.2):A.cy (HX wa.sh (fj,some t,some b,(fj,s_ (some (some t),some (some b)),[],false),())) λy=>y.1.2.2.2=false->s_ (some (some t),some (some b)) y.1.2.2.1:=by
 obtain⟨E,U⟩:=h;have Hg:∀ L,s_ (some (some t),some (some b)) L<->L=pS b.1 t.2:=λL=>⟨λ⟨cZ,be,az,aN,_,e⟩=>by cases az;cases aN;exact e,λe=>⟨t,b,rfl,rfl,⟨E,U⟩,e⟩⟩
 generalize s_ (some (some t),some (some b))=S at *
 unfold HX;simp only[Option.isSome_some,A.br,Option.getD_some];refine A.BV (λD=>∃ (u:Nat),u<=10/\D=(fj,some b,t.2,(u:Int),(fj,S,(t.2.take u).flatMap (ds b.1.2.2.2.1),false),())) (λD=>(10 - D.2.2.2.1).toNat) ?_ _ ⟨0,by omega,rfl⟩;rintro D ⟨u,hu,rfl⟩;by_cases L4:u<10
 ·have au:decide ((u:Int)<10)=true:=by simpa using (by omega:(u:Int)<10)
  have sL:u<t.2.length:=by omega
  have amL:=bF (n:=(u:Int)+1) (by omega) (by omega);have hm:=List.getElem_mem sL;obtain⟨ah,a6⟩:=U _ hm;simp only[au,if_true,dk sL];rw[A.bq (show (0:Int)<=(u:Int)/\(u:Int)<Int.ofNat 10 by rw[bZ];omega)];have fT:pS b.1 t.2=(t.2.take u).flatMap (ds b.1.2.2.2.1)++(ds b.1.2.2.2.1 t.2[u]++(t.2.drop (u+1)).flatMap (ds b.1.2.2.2.1)):=by
   unfold pS;conv=>lhs;rw[<-List.take_append_drop u t.2,List.drop_eq_getElem_cons sL]
   simp only[List.flatMap_append,List.flatMap_cons]
  generalize amM:t.2[u]=jZ at *
  generalize (t.2.drop (u+1)).flatMap (ds b.1.2.2.2.1)=R at *
  generalize jt:(t.2.take u).flatMap (ds b.1.2.2.2.1)=P at *
  have amN:(t.2.take (u+1)).flatMap (ds b.1.2.2.2.1)=P++ds b.1.2.2.2.1 jZ:=by
   rw[List.take_add_one,List.getElem?_eq_getElem sL,Option.toList_some,List.flatMap_append,jt,amM];simp
  rw[A.gb];refine (A.BV (p:=λz=>match z with | .next z=>z=(fj,some b,t.2,(u:Int),(fj,S,P++ds b.1.2.2.2.1 jZ,false),()) | .done z=>(match z with | .next _=>False | .done y=>y.1.2.2.2=true)) (λD=>∃ (i:Nat) (Q:List bz),i<=jZ.length+1/\Q++ds b.1.2.2.2.1 (jZ.drop i)=ds b.1.2.2.2.1 jZ/\D=(fj,some b,jZ,(i:Int),t.2,(u:Int),(fj,S,P++Q,false),())) (λD=>(20 - D.2.2.2.1).toNat) ?_ _ ⟨0,[],by omega,by simp,by simp⟩).mono λz bj=>?_
  ·rintro D ⟨i,Q,oI,uf,rfl⟩;have hw:=bF (n:=(i:Int)+1) (by omega) (by omega);have gZ:=bF (n:=(i:Int)+2) (by omega) (by omega);by_cases G:i+1<jZ.length
   ·have LW:i<jZ.length:=by omega
    have au:decide ((i:Int)+1<(jZ.length:Int))=true:=by simpa using (by omega:(i:Int)+1<(jZ.length:Int))
    have cw:(0:Int)<=(i:Int)+1/\(i:Int)+1<(jZ.length:Int):=⟨by omega,by omega⟩
    have jy:jZ.getD ((i:Int)+1).toNat ((0,0,0,0,0,0),0)=jZ[i+1]:=by
     rw[show ((i:Int)+1).toNat=i+1 from by omega,s4 G]
    have em:wa.sh (b.1,jZ[i].2,jZ[i+1].2)=A.pure (mc b.1.2.2.2.1 jZ[i].2 jZ[i+1].2):=A.bR (a6 i G) _;simp only[Prod.dc,Prod.fv,bZ,cp,hw,au,if_true,dk LW,cP LW,cw,jy,Option.isSome_some,Option.getD_some,em,A.iX,A.fG,and_self,A.br,decide_true];rw[A.gb,A.kP];have cV:=amI (cl:=b.1.2.2.2.1) G;refine⟨⟨trivial,trivial,ds b.1.2.2.2.1 (jZ.drop (i+2))++R,(Hg _).2 ?_⟩,⟨true,trivial⟩,λy _=>?_⟩
    ·rw[fT,<-uf,cV];simp
    ·cases y with
     | false=>
      simp only[Bool.not_false,if_true,A.aK];exact A.eb.2 rfl
     | true=>
      simp only[Bool.not_true,Bool.false_eq_true,if_false,gZ];refine A.eb.2 ⟨⟨i+2,Q++[(jZ[i].1,mc b.1.2.2.2.1 jZ[i].2 jZ[i+1].2)],by omega,?_,?_⟩,?_⟩
      ·rw[<-uf,cV];simp
      ·rw[List.append_assoc];rfl
      ·show (20 - ((i:Int)+2)).toNat<(20 - (i:Int)).toNat;omega
   ·have au:decide ((i:Int)+1<(jZ.length:Int))=false:=by simpa using (by omega:(jZ.length:Int)<=(i:Int)+1)
    simp only[bZ,cp,hw,au,Bool.false_eq_true,if_false,A.aK];refine A.eb.2 ?_;rw[amJ G,List.append_nil]at uf;show (fj,some b,t.2,(u:Int),(fj,S,P++Q,false),())=_;rw[uf]
  ·cases z with
   | next z=>
    have bj:z=_:=bj;subst bj;simp only[A.b7,cp,amL];refine A.eb.2 ⟨⟨u+1,by omega,?_⟩,?_⟩
    ·rw[amN];rfl
    ·show (10 - ((u:Int)+1)).toNat<(10 - (u:Int)).toNat;omega
   | done z=>
    cases z with
    | next z=>exact absurd bj id
    | done y=>
     have bj:y.1.2.2.2=true:=bj;simp only[A.pG];refine A.eb.2 λh=>?_;rw[bj]at h;cases h
 ·have Nr:u=10:=by omega
  subst Nr;simp only[show decide (((10:Nat):Int)<10)=false from by decide,Bool.false_eq_true,if_false,A.aK];refine A.eb.2 λ_=>(Hg _).2 ?_;show (t.2.take 10).flatMap _=_;rw[<-E,List.take_length];rfl
abbrev A1:aO:=⟨.aB (.bG sV) (.bG yc),.ct (.aB hq bp),λ_=>True,λx=>s_ (some x.2,some x.1)⟩
theorem amO(x):A.le (akM s_ x) (A1.sh x):=A.bw λ_=>rfl
end Go.Fer.H
namespace Go.Fer.H
open A (W)
theorem A2{an β:Type}{f:an->β}:∀ {l:List an},(l.map f).Nodup->∀ {a b:an},a∈l->b∈l->f a=f b->a=b
 | [],_,a,b,a_,_,_=>by grind
 | x::l,ax,a,b,a_,aa,e=>by
  rw[List.map_cons,List.nodup_cons]at ax;rcases List.mem_cons.1 a_ with E | E<;>rcases List.mem_cons.1 aa with U | U
  ·grind
  ·grind
  ·grind
  ·exact A2 ax.2 E U e
theorem amP{l m:z1'}(h:l.Perm m):l.sum=m.sum:=by
 induction h with
 | nil=>rfl
 | cons x _ aL=>grind
 | swap x y l=>grind
 | trans _ _ E U=>omega
theorem OG{l:List bz}(h:eE l=true){i:Nat}(G:i<l.length):en l[i].1=1+((i % 2:Nat):Int)/\(0<i->l[i].2≠(l.getD (i - 1) bH).2):=by
 unfold eE at h;rw[List.all_eq_true]at h;have:=h i (by grind);unfold qI at this;grind
theorem X1(cl:z4'):∀ l:List bz,(∀ i,(h:i<l.length)->en l[i].1=1+((i % 2:Nat):Int))->ds cl l=((uB l).filter λp=>en p.1.1 == 1).map λp=>(p.1.1,mc cl p.1.2 p.2.2)
 | [],_=>rfl
 | [_],_=>rfl
 | [a,b],h=>by
  have a_:en a.1=1:=h 0 (by simp);simp[ds,uB,a_]
 | a::b::c::r,h=>by
  have a_:en a.1=1:=h 0 (by simp);have aa:en b.1=2:=h 1 (by simp);have aL:=X1 cl (c::r) λi G=>by
   have:=h (i+2) (by grind);grind
  have e:uB (a::b::c::r)=(a,b)::(b,c)::uB (c::r):=rfl;rw[e,List.filter_cons_of_pos (by grind),List.filter_cons_of_neg (by grind),List.map_cons,<-aL];rfl
abbrev nw(c:aX)(w:z1'):List bz:=pS c (nu c w)
theorem Io(c:aX)(w:z1'):nw c w=(d_ 0 9).flatMap λu=>ds c.2.2.2.1 (b4 c w u):=by
 rfl
theorem OH{c:aX}{w:z1'}(hw:h6 c w=true){u:Int}(hu:0<=u/\u<=9):gz c w u=b4 c w u:=by
 unfold gz;rw[if_pos (Ih hw hu)]
theorem amQ{cl:z4'}{l:List bz}(h:eE l=true)(jh:Int):El cl jh l=((ds cl l).find? λp=>p.1.1 == jh).map (·.2):=by
 rw[X1 cl l λi G=>(OG h G).1];unfold El;rw[List.find?_map,List.find?_filter,Option.map_map];refine congrArg _ (congrArg (λf=>(uB l).find? f) ?_);grind
theorem X2{an β:Type}{f g:an->Option β}:∀ {l:List an},(∀ x∈l,f x=g x)->l.findSome? f=l.findSome? g
 | [],_=>rfl
 | x::l,h=>by
  rw[List.findSome?_cons,List.findSome?_cons,h x (by simp),X2 λy aT=>h y (by grind)]
theorem OI{c:aX}{w:z1'}(hw:h6 c w=true)(jh:Int):iT c w jh=((nw c w).find? λp=>p.1.1 == jh).map (·.2):=by
 unfold iT;rw[Io,List.find?_flatMap,List.map_findSome?];refine X2 λu hu=>?_;have hu:=oW.1 hu;rw[OH hw hu,amQ (Ih hw hu)];rfl
theorem X3{c:aX}(ay:gJ c){w:z1'}(hw:h6 c w=true):Eu c (nu c w):=by
 have U:=En ay.Eh hw;have key:∀ u:Int,0<=u/\u<=9->(b4 c w u).length<=12/\∀ i,(h:i+1<(b4 c w u).length)->AW (c,(b4 c w u)[i].2,(b4 c w u)[i+1].2):=by
  intro u hu;have:=OH hw hu;refine⟨Ei ay w u,?_⟩;have k:=λi=>@XK c ay w U u i;simp only[this]at k;exact k
 refine⟨rfl,λl al=>?_⟩;simp only[nu,List.mem_cons,List.not_mem_nil,or_false]at al;rcases al with rfl | rfl | rfl | rfl | rfl | rfl | rfl | rfl | rfl | rfl<;>exact key _ (by omega)
theorem X4{cl:z4'}:∀ {l:List bz} {p:bz},p∈ds cl l->∃ i,∃ h:i+1<l.length,i % 2=0/\p=(l[i].1,mc cl l[i].2 l[i+1].2)
 | [],_,h=>by simp[ds]at h
 | [_],_,h=>by simp[ds]at h
 | a::b::r,p,h=>by
  unfold ds at h;rcases List.mem_cons.1 h with rfl | h
  ·exact⟨0,by simp,rfl,rfl⟩
  ·obtain⟨i,G,U,e⟩:=X4 h;exact⟨i+2,by grind,by omega,e⟩
theorem X5(cl:z4'):∀ l:List bz,((ds cl l).map (·.1)).Sublist (l.map (·.1))
 | []=>.slnil
 | [_]=>List.nil_sublist _
 | a::b::r=>by
  unfold ds;simp only[List.map_cons];exact ((X5 cl r).cons _).cons_cons _
theorem Ip(l:List aZ):((dn l).map (·.1)).Nodup:=by
 unfold dn;have key:∀ L:z1',L.Nodup->((L.filterMap λid=>l.find? λs=>s.1 == id).map (·.1)).Nodup/\∀ k∈(L.filterMap λid=>l.find? λs=>s.1 == id).map (·.1),k∈L:=by
  grind
 refine (key _ ?_).1;unfold d_;show List.Pairwise _ _;rw[List.pairwise_map];exact (List.pairwise_lt_range).imp λh=>by omega
theorem OJ(c:aX):((e9 c).map (·.1)).Nodup:=by
 unfold e9;exact (Ip c.2.1).sublist (List.filter_sublist.map _)
theorem OK{c:aX}{a b:aZ}(a_:a∈e9 c)(aa:b∈e9 c)(h:a.1=b.1):a=b:=by
 exact A2 (OJ c) a_ aa h
theorem OL(c:aX)(w:z1')(u:Int):((b4 c w u).map (·.1)).Perm ((e9 c).filter λs=>decide (uv s=u)):=by
 unfold b4 oh;refine ((Ed h4 _).map _).trans ?_;rw[List.map_map];exact List.Perm.of_eq (List.map_id' _)
theorem X6{c:aX}{w:z1'}{p:bz}(h:p∈nw c w):∃ u,0<=u/\u<=9/\∃ i,∃ G:i+1<(b4 c w u).length,i % 2=0/\p=((b4 c w u)[i].1,mc c.2.2.2.1 (b4 c w u)[i].2 (b4 c w u)[i+1].2):=by
 rw[Io,List.mem_flatMap]at h;obtain⟨u,hu,aq⟩:=h;obtain⟨i,G,U,e⟩:=X4 aq;exact⟨u,(oW.1 hu).1,(oW.1 hu).2,i,G,U,e⟩
theorem A3{c:aX}{w:z1'}{p:bz}(h:p∈nw c w):p.1∈e9 c:=by
 obtain⟨u,_,_,i,G,_,rfl⟩:=X6 h;exact (Ej (List.getElem_mem (by omega:i<(b4 c w u).length))).1
theorem amR{c:aX}{w:z1'}(hw:h6 c w=true){p:bz}(h:p∈nw c w):en p.1=1:=by
 obtain⟨u,E,U,i,G,ah,rfl⟩:=X6 h;have:=(OG (Ih hw ⟨E,U⟩) (by omega:i<(b4 c w u).length)).1;grind
theorem OM(c:aX)(w:z1'):((nw c w).map (·.1)).Nodup:=by
 have hc:(e9 c).Nodup:=by
  have:=OJ c;exact List.Pairwise.of_map _ (λa b h e=>h (by rw[e])) this
 have hu:∀ u,((ds c.2.2.2.1 (b4 c w u)).map (·.1)).Nodup/\∀ s∈(ds c.2.2.2.1 (b4 c w u)).map (·.1),uv s=u:=by
  intro u;have aD:=X5 c.2.2.2.1 (b4 c w u);have aq:=OL c w u;grind
 rw[Io,List.map_flatMap];have key:∀ L:z1',L.Nodup->(L.flatMap λu=>(ds c.2.2.2.1 (b4 c w u)).map (·.1)).Nodup/\∀ s∈(L.flatMap λu=>(ds c.2.2.2.1 (b4 c w u)).map (·.1)),uv s∈L:=by
  grind
 refine (key _ ?_).1;unfold d_;show List.Pairwise _ _;rw[List.pairwise_map];exact (List.pairwise_lt_range).imp λh=>by omega
theorem X7{an:Type}(yr:an->Int):∀ (l:List an) (n:Int),l.foldl (λn x=>n+yr x) n=n+(l.map yr).sum
 | [],n=>by simp
 | x::l,n=>by simp only[List.foldl_cons,List.map_cons,List.sum_cons];rw[X7 yr l];omega
theorem amS{an:Type}{f g:an->Int}{l:List an}(h:∀ x∈l,f x=g x):(l.map f).sum=(l.map g).sum:=by rw[List.map_congr_left h]
theorem amT{ψ:bz->Int}:∀ (C:List aZ) (H:List bz),(C.map (·.1)).Nodup->(H.map (·.1)).Nodup->(∀ p∈H,p.1∈C)->(C.map λs=>(((H.find? λp=>p.1.1 == s.1).map ψ).getD 0)).sum=(H.map ψ).sum:=by
 intro C H jr m_ rh;have e:(H.map ψ).sum=((C.filterMap λs=>H.find? λp=>p.1.1 == s.1).map ψ).sum:=by
  refine amP (List.Perm.map ψ ?_);have amU:H.Nodup:=List.Pairwise.of_map _ (λa b h e=>h (by rw[e])) m_;refine (List.perm_ext_iff_of_nodup amU ?_).2 λp=>?_
  ·have:∀ C:List aZ,(C.map (·.1)).Nodup->(C.filterMap λs=>H.find? λp=>p.1.1 == s.1).Nodup/\∀ q∈(C.filterMap λs=>H.find? λp=>p.1.1 == s.1),q.1.1∈C.map (·.1):=by
    grind
   grind
  ·rw[List.mem_filterMap];constructor
   ·intro aq;refine⟨p.1,rh p aq,?_⟩;have hex:(H.find? λq=>q.1.1 == p.1.1).isSome=true:=List.find?_isSome.2 ⟨p,aq,by simp⟩;obtain⟨q,bt⟩:=Option.isSome_iff_exists.1 hex;have Ev:q.1.1=p.1.1:=by grind
    have wh:=List.mem_of_find?_eq_some bt;have amV:q.1=p.1:=A2 jr (rh q wh) (rh p aq) Ev;have:q=p:=A2 m_ wh aq amV;grind
   grind
 rw[e];have:∀ C:List aZ,(C.map λs=>(((H.find? λp=>p.1.1 == s.1).map ψ).getD 0)).sum=((C.filterMap λs=>H.find? λp=>p.1.1 == s.1).map ψ).sum:=by
  intro C;induction C with
  | nil=>rfl
  | cons s C aL=>
   grind
 grind
def uL(c:aX)(g:Int)(p:bz):Int:=if iQ p.1=g then lJ c.2.2.2.2 p.2 else 0
theorem amW{c:aX}{w:z1'}(hw:h6 c w=true)(g:Int):yl c w g=((nw c w).map (uL c g)).sum:=by
 rw[<-amT (ψ:=uL c g) (e9 c) (nw c w) (OJ c) (OM c w) λp aq=>A3 aq];unfold yl;have e:(λ(n:Int) (s:aZ)=>if (en s=1/\iQ s=g)/\(iT c w (lH s)).isSome=true then n+lJ c.2.2.2.2 ((iT c w (lH s)).getD 0) else n)=λn s=>n+(if (en s=1/\iQ s=g)/\(iT c w (lH s)).isSome=true then lJ c.2.2.2.2 ((iT c w (lH s)).getD 0) else 0):=by
  grind
 rw[e,X7,Int.zero_add];refine amS λs aD=>?_;rw[OI hw];cases ao:(nw c w).find? λp=>p.1.1 == lH s with
 | none=>simp
 | some p=>
  have aq:=List.mem_of_find?_eq_some ao;have E:p.1.1=s.1:=by grind
  have U:p.1=s:=OK (A3 aq) aD E;have ah:=amR hw aq;rw[U]at ah;simp only[Option.map_some,Option.getD_some,Option.isSome_some,and_true,ah,true_and,uL,U]
theorem A4(c:aX)(b:Bool):((ey c b).2≠0/\(ey c b).1=[]/\s9 c b=(none,(ey c b).2))\/(ey c b=(cF c,0)/\b' c=0/\b=true/\s9 c b=(some (uK c),0)):=by
 unfold ey s9;by_cases hc:b' c=0
 ·cases b with
  | false=>left;simp[hc]
  | true=>
   by_cases aF:cF c=[]
   ·left;simp[hc,aF]
   ·right;simp[hc,aF]
 ·left;simp[hc]
theorem ON{an β:Type}{f g:an->Option β}:∀ {l:List an},(∀ x∈l,f x=g x)->l.filterMap f=l.filterMap g
 | [],_=>rfl
 | x::l,h=>by
  rw[List.filterMap_cons,List.filterMap_cons,h x (by simp),ON λy aT=>h y (by simp[aT])]
theorem X8:uD []=(0,0):=rfl
theorem amX{an:Type}(L:List an)(P:an->Option dQ)(f:Option dQ->A (Int×Bool))(v:an->Int×Bool)(h:∀ w∈L,f (P w)=A.pure (v w)):wg (L.map P) f=ym (L.filterMap λw=>if (v w).2=true then some (v w).1 else none):=by
 unfold wg;rw[List.filterMap_map];refine congrArg ym (ON λw hw=>?_);simp only[Function.comp,h w hw,A.fG]
theorem X9{an:Type}(yr:an->Int)(L:List an):(L.filterMap λw=>if ((yr w,true):Int×Bool).2=true then some ((yr w,true):Int×Bool).1 else none)=L.map yr:=by
 simp only[if_true];rw[<-List.filterMap_eq_map']
theorem OO{c:aX}(al:(cF c).length<=60){f:Option dQ->A (Int×Bool)}{v:z1'->Int×Bool}(h:∀ w∈cF c,f (iB c w)=A.pure (v w)):A0.sh (some (uK c),f)=A.pure ((ym ((cF c).filterMap λw=>if (v w).2=true then some (v w).1 else none)).getD (0,0),(ym ((cF c).filterMap λw=>if (v w).2=true then some (v w).1 else none)).isSome):=by
 refine (A.bR ⟨uK c,rfl,show ((cF c).map (iB c)).length<=60 by simpa using al,λt aF=>?_⟩ _).trans (congrArg A.pure ?_)
 ·show ((wg ((cF c).map (iB c)) f).getD (0,0),(wg ((cF c).map (iB c)) f).isSome)=_;rw[amX _ _ f v h]
 ·obtain⟨w,hw,rfl⟩:=List.mem_map.1 aF;exact⟨_,h w hw⟩
theorem amY:∀ {l:z1'},(ym l).isSome=!l.isEmpty:=by
 intro l;have key:∀ (l:z1') (o:Option (Int×Int)),o.isSome=true->(l.foldl (λo n=>some (Ii o n)) o).isSome=true:=by
  intro l;induction l with
  | nil=>intro o h;exact h
  | cons n l aL=>intro o _;exact aL _ rfl
 cases l with
 | nil=>rfl
 | cons n l=>exact key l _ rfl
theorem Ew{c:aX}{f:Option ea->A Bool}{b:Bool}(h:fy c)(ao:b' c=0->f (some (c,e9 c,[]))=A.pure b):we.sh (c,f)=A.pure (s9 c b):=by
 refine (A.bR ⟨h,λhc=>⟨b,ao hc⟩⟩ _).trans (congrArg A.pure ?_);show s9 c (Es c f)=s9 c b;unfold s9 Es;by_cases hc:b' c=0
 ·rw[ao hc,A.fG]
 ·simp[hc]
theorem Ex{c:aX}(h:fy c)(hc:b' c=0):(cF c).length<=60:=Nat.le_trans (Oy c _ _) (h.2 hc)
theorem wi{c:aX}{w:z1'}(h:w∈cF c):h6 c w=true:=Oz c _ _ _ h
abbrev A5:aO:=⟨.aB hq (.bG bp),dj,λx=>∃ k:Int,x.2=some k/\True,λx=>decide (lH x.1=x.2.getD 0)&&decide (en x.1=1)⟩
theorem amZ(x):A.le (akW x) (A5.sh x):=A.bw λ_=>rfl
abbrev OP:aO:=⟨.aB (.bG sV) (.bG bp),dj,λx=>∃ (b:ea) (k:Int),x.2=some k/\x.1=some b/\b.2.1.length<2 ^ 63,λx=>(x.1.getD (uJ,[],[])).2.1.any λs=>lH s == x.2.getD 0&&en s == 1⟩
theorem am0(x):A.le (WR (jf hq).sh A5.sh x) (OP.sh x):=A.bw λh=>by
 obtain⟨o,k⟩:=x;obtain⟨b,_,_,aa,h⟩:=h;change o=some b at aa;subst aa;unfold WR;simp only[Option.isSome_some,A.br,Option.getD_some];have af:∀ s,A5.sh (s,some (k.getD 0))=A.pure (decide (lH s=k.getD 0)&&decide (en s=1)):=λs=>A.bR ⟨_,rfl,trivial⟩ _;rw[show (jf hq).sh (b.2.1,λs=>A5.sh (s,some (k.getD 0)))=A.pure (b.2.1.any λs=>(A5.sh (s,some (k.getD 0))).val false) from A.bR ⟨h,λs _=>⟨_,af s⟩⟩ _,A.aK];refine congrArg A.pure ?_;show _=b.2.1.any λs=>lH s == k.getD 0&&en s == 1;refine congrArg (λp=>b.2.1.any p) ?_;funext s;rw[af,A.fG];rw[Bool.eq_iff_iff];simp
theorem X_{f:Int->A Int}{n:Int}:∀ (L:List bz),(∀ p∈L,p.1.1=n->∃ v,f p.2=A.pure v)->
  jR (λ(D:Int×(Int->A Int)×Int×Bool×Unit) (y:aZ×Int)=>A.bind (if decide (y.1.1=D.1)=true then A.bind (D.2.1 y.2) λy=>A.pure (di.ret,y,true,()) else A.pure
 (di.normal,D.2.2.1,D.2.2.2.1,())) λp=>A.pure (p.1,D.1,D.2.1,p.2.1,p.2.2.1,())) L (n,f,0,false,())=(L.find? λp=>p.1.1 == n).elim (A.pure (di.normal,n,f,0,false,())) λp=>A.pure (di.ret,n,f,(f p.2).val 0,true,())
 | [],_=>rfl
 | p::L,h=>by
  unfold jR;by_cases aq:p.1.1=n
  ·obtain⟨v,af⟩:=h p (by simp) aq;simp[aq,af]
  ·have aL:=X_ L λq bt=>h q (by simp[bt]);simp only[aq,decide_false,Bool.false_eq_true,if_false,A.aK];rw[aL,List.find?_cons_of_neg (by simpa using aq)]
abbrev OQ:aO:=⟨.aB (.bG yc) (.aB (.bG (.bG sV)) (.aB (.bG bp) (.bG (.fn bp bp)))),.aB bp .bool,λx=>∃ (t:dQ) (b:ea) (n:Int) (f:Int->A Int),x=(some t,some (some b),some n,some f)/\Eu b.1 t.2/\∀ p∈pS b.1 t.2,p.1.1=n->∃ v,f p.2=A.pure v,λx=>((pS ((x.2.1.getD none).getD (uJ,[],[])).1 (x.1.getD ([],[])).2).find? λp=>p.1.1 == x.2.2.1.getD 0).elim (0,false) λp=>(((x.2.2.2.getD λ_=>A.fail) p.2).val 0,true)⟩
theorem am1(x):A.le (WS A1.sh x) (OQ.sh x):=A.sP λh=>by
 obtain⟨t,b,n,f,rfl,E,U⟩:=h;unfold WS;simp only[Option.getD_some];rw[show A1.sh (some b,some t)=A.pure (s_ (some (some t),some (some b))) from rfl,A.aK,A.gb];refine⟨⟨_,t,b,rfl,rfl,E,rfl⟩,λL gH=>?_⟩;obtain⟨cZ,be,az,aN,_,rfl⟩:=gH;cases az;cases aN;rw[X_ (f:=f) (n:=n) _ U];show A.cy _ λy=>y=((pS b.1 t.2).find? λp=>p.1.1 == n).elim (0,false) λp=>((f p.2).val 0,true)
 cases (pS b.1 t.2).find? λp=>p.1.1 == n with
 | none=>simp only[Option.elim,A.aK,sA];exact A.eb.2 rfl
 | some p=>simp only[Option.elim,A.aK,sA];exact A.eb.2 rfl
abbrev A6:aO:=⟨.aB iA (.aB bp (.fn bp bp)),.aB mI bp,λx=>fy x.1/\∀ w∈cF x.1,∀ m,b' x.1=0->iT x.1 w x.2.1=some m->∃ v,x.2.2 m=A.pure v,λx=>(uD ((ko x.1 x.2.1).1.map λm=>(x.2.2 m).val 0),(ko x.1 x.2.1).2)⟩
theorem am2(x):A.le (Wy we.sh A0.sh OP.sh OQ.sh x) (A6.sh x):=A.bw λh=>by
 obtain⟨c,n,f⟩:=x;obtain⟨h,ao⟩:=h;change fy c at h;change ∀ w∈cF c,∀ m,b' c=0->iT c w n=some m->∃ v,f m=A.pure v at ao;unfold Wy;show _=A.pure (uD ((ko c n).1.map λm=>(f m).val 0),(ko c n).2);unfold ko;rw[Ew (b:=uC c n) h λhc=>A.bR ⟨(c,e9 c,[]),n,rfl,rfl,by have:=(mJ hc).Ou;show (e9 c).length<2 ^ 63;omega⟩ _];rcases A4 c (uC c n) with⟨E,U,ah⟩ | ⟨E,U,ah,a6⟩
 ·rw[ah];simp only[A.aK];rw[if_pos (by simpa using E),if_pos E];rfl
 ·rw[E,a6];simp only[A.aK];rw[if_neg (by simp)];have ay:=mJ U;rw[OO (v:=λw=>(iT c w n).elim (0,false) λm=>((f m).val 0,true)) (Ex h U) λw hw=>?_,A.aK]
  ·have e:((cF c).filterMap λw=>if ((iT c w n).elim ((0,false):Int×Bool) λm=>((f m).val 0,true)).2=true then some ((iT c w n).elim ((0,false):Int×Bool) λm=>((f m).val 0,true)).1 else none)=((cF c).filterMap λw=>iT c w n).map λm=>(f m).val 0:=by
    rw[List.map_filterMap];refine ON λw _=>?_;cases iT c w n<;>rfl
   rw[e,amY];generalize (cF c).filterMap (λw=>iT c w n)=l;cases l with
   | nil=>rfl
   | cons m l=>simp;rfl
  ·have aF:=wi hw;have vp:=OI aF n;refine (A.bR ⟨(w,nu c w),uK c,n,f,rfl,X3 ay aF,λp aq X'=>?_⟩ _).trans (congrArg A.pure ?_)
   ·show ((nw c w).find? λp=>p.1.1 == n).elim (0,false) (λp=>((f p.2).val 0,true))=_;rw[vp];cases (nw c w).find? λp=>p.1.1 == n<;>rfl
   ·refine ao w hw p.2 U ?_;rw[vp];have hex:((nw c w).find? λq=>q.1.1 == n).isSome=true:=List.find?_isSome.2 ⟨p,aq,by simpa using X'⟩;obtain⟨q,bt⟩:=Option.isSome_iff_exists.1 hex;have Ev:q.1.1=n:=by have:=List.find?_some bt;simpa using this
    have wh:=List.mem_of_find?_eq_some bt;have aD:q.1=p.1:=OK (A3 wh) (A3 aq) (Ev.trans X'.symm);have:q=p:=A2 (OM c w) wh aq aD;rw[bt,this];rfl
abbrev yt:aO:=⟨bp,bp,λ_=>True,λx=>x⟩
theorem am3(x):A.le (akL x) (yt.sh x):=A.bw λ_=>rfl
theorem am4(x):A.le (Wm A6.sh yt.sh x) (Ik.sh x):=A.bw λh=>by
 obtain⟨c,n⟩:=x;change fy c at h;unfold Wm;rw[show A6.sh (c,n,yt.sh)=A.pure (uD ((ko c n).1.map λm=>(yt.sh m).val 0),(ko c n).2) from A.bR ⟨h,λ_ _ m _ _=>⟨m,rfl⟩⟩ _];simp only[A.aK];show _=A.pure (Ij c n);unfold Ij;have:((ko c n).1.map λm=>(yt.sh m).val 0)=(ko c n).1:=by
  have:(λm:Int=>(yt.sh m).val 0)=λm=>m:=by
   funext m;exact A.fG
  rw[this,List.map_id']
 rw[this]
abbrev yu:aO:=⟨.aB bp (.bG iA),bp,λx=>∃ c:aX,x.2=some c/\yj (c.2.2.2.2,x.1),λx=>lJ (x.2.getD uJ).2.2.2.2 x.1⟩
theorem am5(x):A.le (Wz wb.sh x) (yu.sh x):=A.bw λh=>by
 obtain⟨m,q⟩:=x;obtain⟨c,hc,h⟩:=h;change q=some c at hc;subst hc;unfold Wz;simp only[Option.getD_some];rw[show wb.sh (c.2.2.2.2,m)=A.pure (lJ c.2.2.2.2 m) from A.bR h _,A.aK]
theorem Ya{c:aX}(ay:gJ c){w:z1'}(hw:h6 c w=true){n m:Int}(hm:iT c w n=some m):yu.sh (m,some c)=A.pure (lJ c.2.2.2.2 m):=by
 have:=XO ay (En ay.Eh hw) hm;exact A.bR ⟨c,rfl,ay.Ot,show -100000<=m by omega,show m<=20000 by omega⟩ _
theorem am6{c:aX}{n m:Int}(hm:m∈(ko c n).1):b' c=0/\∃ w,h6 c w=true/\w∈cF c/\iT c w n=some m:=by
 unfold ko at hm;split at hm
 ·simp at hm
 ·split at hm
  ·simp at hm
  ·rw[List.mem_filterMap]at hm;obtain⟨w,hw,he⟩:=hm;obtain⟨E,U,ah,_⟩:=aml hw;exact⟨E,w,ah,U,he⟩
theorem am7(x):A.le (Wl A6.sh yu.sh x) (uE.sh x):=A.bw λh=>by
 obtain⟨c,n⟩:=x;change fy c at h;unfold Wl;rw[show A6.sh (c,n,λm=>yu.sh (m,some c))=A.pure (uD ((ko c n).1.map λm=>(yu.sh (m,some c)).val 0),(ko c n).2) from A.bR ⟨h,λw hw m hc hm=>⟨_,Ya (mJ hc) (wi hw) hm⟩⟩ _];simp only[A.aK];show _=A.pure (rN c n);unfold rN;have:((ko c n).1.map λm=>(yu.sh (m,some c)).val 0)=(ko c n).1.map λm=>lJ c.2.2.2.2 m:=by
  refine List.map_congr_left λm hm=>?_;obtain⟨hc,w,hw,_,he⟩:=am6 hm;rw[Ya (mJ hc) hw he,A.fG]
 rw[this]
abbrev OR:aO:=⟨.aB (.bG sV) (.bG bp),dj,λx=>∃ k:Int,x.2=some k/\True,λx=>bX (x.2.getD 0) 0 99⟩
theorem am8(x):A.le (WE vT.sh x) (OR.sh x):=A.bw λ_=>by
 unfold WE;rw[show vT.sh (x.2.getD 0)=A.pure (bX (x.2.getD 0) 0 99) from rfl,A.aK]
abbrev OS:aO:=⟨.aB (.bG yc) (.aB (.bG (.bG sV)) (.aB (.bG bp) (.bG iA))),.aB bp .bool,λx=>∃ (t:dQ) (b:ea) (n:Int) (c:aX),x=(some t,some (some b),some n,some c)/\Eu b.1 t.2/\(pS b.1 t.2).length<=1000/\∀ p∈pS b.1 t.2,yj (c.2.2.2.2,p.2),λx=>(((pS ((x.2.1.getD none).getD (uJ,[],[])).1 (x.1.getD ([],[])).2).map (uL (x.2.2.2.getD uJ) (x.2.2.1.getD 0))).sum,true)⟩
theorem OT{c:aX}{n:Int}:∀ (L:List bz) (a:Int),(∀ p∈L,yj (c.2.2.2.2,p.2))->0<=a->a+100000*(L.length:Int)<=1000000000->
  jR (λ(D:Int×aX×Int×Unit) (y:aZ×Int)=>A.bind (if decide (y.1.2.2.2.2.2=D.1)=true then A.ae (wb.sh (D.2.1.2.2.2.2,y.2)).cr (A.pure (di.normal,IntKind.wrap
 .i64 (Add.add D.2.2.1 (A.val (wb.sh (D.2.1.2.2.2.2,y.2)) 0)),())) else A.pure (di.normal,D.2.2.1,())) λp=>A.pure (p.1,D.1,D.2.1,p.2.1,())) L (n,c,a,())=A.pure (di.normal,n,c,a+(L.map (uL c n)).sum,())
 | [],a,_,_,_=>by simp[jR]
 | p::L,a,h,aY,E=>by
  unfold jR;simp only[List.length_cons]at E;by_cases aq:p.1.2.2.2.2.2=n
  ·have aa:=al_ (h p (by simp));have af:wb.sh (c.2.2.2.2,p.2)=A.pure (lJ c.2.2.2.2 p.2):=A.bR (h p (by simp)) _;have hw:=bF (n:=a+lJ c.2.2.2.2 p.2) (by omega) (by omega);have aL:=OT (c:=c) (n:=n) L (a+lJ c.2.2.2.2 p.2) (λq bt=>h q (by simp[bt])) (by omega) (by omega);simp only[aq,decide_true,if_true,af,A.iX,A.fG,A.br,cp,hw,A.aK];simp only[cp]at aL;rw[aL,List.map_cons,List.sum_cons];rw[show uL c n p=lJ c.2.2.2.2 p.2 from if_pos aq];rw[Int.add_assoc]
  ·have aL:=OT (c:=c) (n:=n) L a (λq bt=>h q (by simp[bt])) aY (by omega);simp only[aq,decide_false,Bool.false_eq_true,if_false,A.aK];rw[aL,List.map_cons,List.sum_cons];rw[show uL c n p=0 from if_neg aq,Int.zero_add]
theorem am9(x):A.le (WH wb.sh A1.sh x) (OS.sh x):=A.sP λh=>by
 obtain⟨t,b,n,c,rfl,E,U,ah⟩:=h;unfold WH;simp only[Option.getD_some];rw[show A1.sh (some b,some t)=A.pure (s_ (some (some t),some (some b))) from rfl,A.aK,A.gb];refine⟨⟨_,t,b,rfl,rfl,E,rfl⟩,λL gH=>?_⟩;obtain⟨cZ,be,az,aN,_,rfl⟩:=gH;cases az;cases aN;rw[OT _ 0 ah (by omega) (by omega)];show A.cy _ λy=>y=(((pS b.1 t.2).map (uL c n)).sum,true)
 simp only[A.aK,sA,Int.zero_add];exact A.eb.2 rfl
theorem Yb(cl:z4'):∀ l:List bz,(ds cl l).length<=l.length
 | []=>by simp[ds]
 | [_]=>by simp[ds]
 | a::b::r=>by unfold ds;simp only[List.length_cons];have:=Yb cl r;omega
theorem am_{c:aX}(ay:gJ c)(w:z1'):(nw c w).length<=1000:=by
 rw[Io];have:=Ox (λu=>ds c.2.2.2.1 (b4 c w u)) 12 (d_ 0 9) λu _=>Nat.le_trans (Yb _ _) (Ei ay w u);rw[show (d_ 0 9).length=10 from by decide]at this;omega
theorem am'{c:aX}(ay:gJ c){w:z1'}(hw:h6 c w=true){p:bz}(aq:p∈nw c w):yj (c.2.2.2.2,p.2):=by
 have hex:((nw c w).find? λq=>q.1.1 == p.1.1).isSome=true:=List.find?_isSome.2 ⟨p,aq,by simp⟩;obtain⟨q,bt⟩:=Option.isSome_iff_exists.1 hex;have Ev:q.1.1=p.1.1:=by have:=List.find?_some bt;simpa using this
 have wh:=List.mem_of_find?_eq_some bt;have:q=p:=A2 (OM c w) wh aq (OK (A3 wh) (A3 aq) Ev);have af:iT c w p.1.1=some p.2:=by rw[OI hw,bt,this];rfl
 have:=XO ay (En ay.Eh hw) af;exact⟨ay.Ot,show -100000<=p.2 by omega,show p.2<=20000 by omega⟩
theorem ana(x):A.le (Wo we.sh A0.sh OR.sh OS.sh x) (yn.sh x):=A.bw λh=>by
 obtain⟨c,g⟩:=x;change fy c at h;unfold Wo;show _=A.pure (uF c g);unfold uF;rw[Ew (b:=bX g 0 99) h λhc=>A.bR ⟨g,rfl,trivial⟩ _];rcases A4 c (bX g 0 99) with⟨E,U,ah⟩ | ⟨E,U,ah,a6⟩
 ·rw[U,ah];simp only[A.aK,List.map_nil,X8];rw[if_pos (by simpa using E)]
 ·rw[E,a6];simp only[A.aK];rw[if_neg (by simp)];have ay:=mJ U;rw[OO (v:=λw=>(yl c w g,true)) (Ex h U) λw hw=>?_,A.aK,X9]
  ·rfl
  ·have aF:=wi hw;refine (A.bR ⟨(w,nu c w),uK c,g,c,rfl,X3 ay aF,am_ ay w,λp aq=>am' ay aF aq⟩ _).trans (congrArg A.pure ?_);show (((nw c w).map (uL c g)).sum,true)=_;rw[amW aF]
def mK(t:Int):List bz->bz×Bool->bz×Bool
 | [],b=>b
 | e::l,b=>mK t l (if e.2<=t then (e,decide (en e.1=1)) else b)
def ha(l:List bz)(t:Int):bz×Bool:=mK t l (bH,false)
theorem Yc{t:Int}{e:bz}{l:List bz}{b:bz×Bool}(h:e.2<=t):mK t (e::l) b=mK t l (e,decide (en e.1=1)):=by rw[mK,if_pos h]
theorem Yd{t:Int}{e:bz}{l:List bz}{b:bz×Bool}(h:¬e.2<=t):mK t (e::l) b=mK t l b:=by rw[mK,if_neg h]
theorem Ye(t:Int):∀ (l:List bz) (b:bz×Bool),l.foldl (λb e=>if e.2<=t then (e,decide (en e.1=1)) else b) b=mK t l b
 | [],_=>rfl
 | e::l,b=>Ye t l _
theorem anb(l:List bz)(t:Int)(h:∀ e∈l,en e.1=1\/en e.1=2):nr l t=(if (ha l t).2=true then iQ (ha l t).1.1 else -1,(ha l t).1.2):=by
 have key:∀ (l:List bz) (b:bz×Bool),(∀ e∈l,en e.1=1\/en e.1=2)->l.foldl (λb e=>if e.2<=t then (if en e.1=2 then (-1,e.2) else (iQ e.1,e.2)) else b) (if b.2=true then iQ b.1.1 else -1,b.1.2)=(if (mK t l b).2=true then iQ (mK t l b).1.1 else -1,(mK t l b).1.2):=by
  intro l;induction l with
  | nil=>intro b _;rfl
  | cons e l aL=>
   intro b h;rw[List.foldl_cons];by_cases he:e.2<=t
   ·rw[Yc he,<-aL (e,decide (en e.1=1)) λx ai=>h x (by grind),if_pos he];grind
   ·rw[Yd he,if_neg he];grind
 exact key l (bH,false) h
theorem Yf(l:List bz)(t:Int):ha l t=(bH,false)\/((ha l t).1∈l/\(ha l t).1.2<=t/\(ha l t).2=decide (en (ha l t).1.1=1)):=by
 have key:∀ (l:List bz) (b:bz×Bool),mK t l b=b\/((mK t l b).1∈l/\(mK t l b).1.2<=t/\(mK t l b).2=decide (en (mK t l b).1.1=1)):=by
  intro l;induction l with
  | nil=>intro b;exact .inl rfl
  | cons e l aL=>
   intro b;by_cases he:e.2<=t
   ·rw[Yc he];grind
   ·rw[Yd he];grind
 exact key l (bH,false)
abbrev OU(t:dQ):Prop:=t.2.length=10/\∀ l∈t.2,l.length<=12
abbrev yv:aO:=⟨.aB (.bG yc) (.aB bp bp),.aB H2 .bool,λx=>∃ t:dQ,x.1=some t/\OU t/\0<=x.2.1/\x.2.1<=9,λx=>ha ((x.1.getD ([],[])).2.getD x.2.1.toNat []) x.2.2⟩
theorem anc(x):A.le (Ww x) (yv.sh x):=A.bw λh=>by
 obtain⟨o,u,m⟩:=x;obtain⟨t,E,⟨U,ah⟩,a6,bL⟩:=h;change o=some t at E;change 0<=u at a6;change u<=9 at bL;subst E;unfold Ww;show _=A.pure (ha (t.2.getD u.toNat []) m);simp only[Option.isSome_some,A.br,Option.getD_some];rw[A.bq (show (0:Int)<=u/\u<Int.ofNat 10 by grind)];have hm:t.2.getD u.toNat []∈t.2:=x8 a6 (by omega);have al:=ah _ hm;generalize t.2.getD u.toNat []=l at *
 rw[A.ed l (λi (b:bz×Bool)=>(m,b.2,l,(l.length:Int),(i:Int),bH,b.1,())) (λe b=>.next (if e.2<=m then (e,decide (en e.1=1)) else b)) (λb=>.next (b.2,bH,b.1,())) (bH,false) ?_ ?_ ?_]
 ·rw[eL,A.aK,Ye];rfl
 ·rfl
 ·intro i G b;have hw:=bF (n:=(i:Int)+1) (by omega) (by omega);simp only[Prod.dc,Prod.fv,bZ,cX G,if_true,dk G,cP G,A.br,cp,hw,W.ho,decide_eq_true_eq];by_cases he:l[i].2<=m
  ·simp_all
  ·simp only[he,if_false,A.aK,A.b7,hw];rfl
 simp
theorem Yg(c:aX)(w:z1'){u:Int}(aY:0<=u)(h:u<=9):(nu c w).getD u.toNat []=b4 c w u:=by
 have hu:u=0\/u=1\/u=2\/u=3\/u=4\/u=5\/u=6\/u=7\/u=8\/u=9:=by omega
 rcases hu with rfl | rfl | rfl | rfl | rfl | rfl | rfl | rfl | rfl | rfl<;>rfl
theorem Yh{c:aX}(ay:gJ c)(w:z1'):OU (w,nu c w):=by
 refine⟨rfl,λl al=>?_⟩;simp only[nu,List.mem_cons,List.not_mem_nil,or_false]at al;rcases al with rfl | rfl | rfl | rfl | rfl | rfl | rfl | rfl | rfl | rfl<;>exact Ei ay w _
theorem Yi{c:aX}(ay:gJ c)(w:z1'){u t:Int}(aY:0<=u)(h:u<=9):yv.sh (iB c w,u,t)=A.pure (ha (b4 c w u) t):=by
 refine (A.bR ⟨_,rfl,Yh ay w,aY,h⟩ _).trans (congrArg A.pure ?_);show ha ((nu c w).getD u.toNat []) t=_;rw[Yg c w aY h]
theorem ane{c:aX}(ay:gJ c){w:z1'}{u:Int}{e:bz}(he:e∈b4 c w u):en e.1=1\/en e.1=2/\iQ e.1=0:=(AU.1 (ay.AV (Ej he).1)).2.2.2.2.2
theorem OV{c:aX}(ay:gJ c){w:z1'}{u:Int}{e:bz}(he:e∈b4 c w u):0<=iQ e.1/\iQ e.1<=99:=(AU.1 (ay.AV (Ej he).1)).2.2.2.2.1
theorem Iq{c:aX}(ay:gJ c){w:z1'}(hw:h6 c w=true){u:Int}(hu:0<=u/\u<=9)(t:Int):nr (gz c w u) t=(if (ha (b4 c w u) t).2=true then iQ (ha (b4 c w u) t).1.1 else -1,(ha (b4 c w u) t).1.2)/\(decide ((nr (gz c w u) t).1>=0)=(ha (b4 c w u) t).2):=by
 have e:=anb (b4 c w u) t λe he=>(ane ay he).imp id And.left;rw[OH hw hu];refine⟨e,?_⟩;rw[e];cases aa:(ha (b4 c w u) t).2 with
 | false=>simp
 | true=>
  simp only[if_true,decide_eq_true_eq];rcases Yf (b4 c w u) t with h | ⟨h,_⟩
  ·grind
  ·exact (OV ay h).1
abbrev A7:aO:=⟨.aB (.bG sV) (.bG bp),dj,λx=>∃ k:Int,x.2=some k/\True,λx=>bX (x.2.getD 0) 0 9999⟩
theorem Yj(x):A.le (WB yf.sh x) (A7.sh x):=A.bw λ_=>by
 unfold WB;rw[show yf.sh (x.2.getD 0)=A.pure (bX (x.2.getD 0) 0 9999) from rfl,A.aK]
theorem anf(x):A.le (akT yf.sh x) (A7.sh x):=Yj x
def Ey(t:dQ)(m p:Int):Int:=(d_ 0 9).foldl (λn u=>if (ha (t.2.getD u.toNat []) m).2=true then n+p else n) 0
abbrev OW:aO:=⟨.aB (.bG yc) (.aB (.bG bp) (.bG iA)),.aB bp .bool,λx=>∃ (t:dQ) (m:Int) (c:aX),x=(some t,some m,some c)/\OU t/\0<=c.2.2.2.2.2.2.2.2.2.2/\c.2.2.2.2.2.2.2.2.2.2<=100000,λx=>(Ey (x.1.getD ([],[])) (x.2.1.getD 0) (x.2.2.getD uJ).2.2.2.2.2.2.2.2.2.2,true)⟩
theorem ang(x):A.le (WD yv.sh x) (OW.sh x):=A.bw λh=>by
 obtain⟨t,m,c,rfl,E,U,ah⟩:=h;unfold WD;simp only[Option.getD_some];show _=A.pure (Ey t m c.2.2.2.2.2.2.2.2.2.2,true);rw[A.f_ (d_ 0 9) (λi (n:Int)=>(some t,m,c,n,(i:Int),())) (λu n=>.next (if (ha (t.2.getD u.toNat []) m).2=true then n+c.2.2.2.2.2.2.2.2.2.2 else n)) (λn=>.next (n,())) (λi n=>0<=n/\n<=100000*(i:Int)) 0 ?_ ?_ ?_ ?_]
 ·rw[eL,A.aK];rfl
 ·rfl
 ·omega
 ·intro i G n ax;have G:i<10:=by simpa [d_]using G
  have hw:=bF (n:=(i:Int)+1) (by omega) (by omega);have gZ:=bF (n:=n+c.2.2.2.2.2.2.2.2.2.2) (by omega) (by omega);have au:decide ((i:Int)<10)=true:=by grind
  refine⟨?_,λbe cY=>?_⟩
  ·simp only[au,if_true,DR,Int.zero_add];rw[show yv.sh (some t,(i:Int),m)=A.pure (ha (t.2.getD ((i:Int)).toNat []) m) from A.bR ⟨t,rfl,E,by simp,by grind⟩ _];simp only[A.aK,cp,hw,gZ,W.ho];by_cases ak:(ha (t.2.getD ((i:Int)).toNat []) m).2=true
   ·simp only[ak,if_true,A.aK,A.b7,hw];rfl
   ·simp only[ak,Bool.false_eq_true,if_false,A.aK,A.b7,hw];rfl
  grind
 ·intro n ax;have:(d_ 0 9).length=10:=by decide
  simp[this]
theorem anh{c:aX}(ay:gJ c){w:z1'}(hw:h6 c w=true)(m:Int):Ey (w,nu c w) m c.2.2.2.2.2.2.2.2.2.2=yk c w m*c.2.2.2.2.2.2.2.2.2.2:=by
 unfold Ey yk;have key:∀ (L:z1') (n:Int),(∀ u∈L,0<=u/\u<=9)->L.foldl (λn u=>if (ha ((nu c w).getD u.toNat []) m).2=true then n+c.2.2.2.2.2.2.2.2.2.2 else n) (n*c.2.2.2.2.2.2.2.2.2.2)=(L.foldl (λn u=>if (nr (gz c w u) m).1>=0 then n+1 else n) n)*c.2.2.2.2.2.2.2.2.2.2:=by
  intro L;induction L with
  | nil=>simp
  | cons u L aL=>
   intro n h;have hu:=h u (by simp);obtain⟨_,U⟩:=Iq ay hw hu m;simp only[List.foldl_cons];rw[Yg c w hu.1 hu.2];grind
 have:=key (d_ 0 9) 0 λu hu=>oW.1 hu;grind
theorem ani(x):A.le (Wn we.sh A0.sh A7.sh OW.sh x) (yo.sh x):=A.bw λh=>by
 obtain⟨c,t⟩:=x;change fy c at h;unfold Wn;show _=A.pure (uG c t);unfold uG;rw[Ew (b:=bX t 0 9999) h λhc=>A.bR ⟨t,rfl,trivial⟩ _];rcases A4 c (bX t 0 9999) with⟨E,U,ah⟩ | ⟨E,U,ah,a6⟩
 ·rw[U,ah];simp only[A.aK,List.map_nil,X8];grind
 ·rw[E,a6];simp only[A.aK];rw[if_neg (by simp)];have ay:=mJ U;have aq:=(Ig.1 ay.Ot).2.2.2.2.2.2;rw[OO (v:=λw=>(yk c w t*c.2.2.2.2.2.2.2.2.2.2,true)) (Ex h U) λw hw=>?_,A.aK,X9]
  ·rfl
  ·refine (A.bR ⟨(w,nu c w),t,c,rfl,Yh ay w,aq.1,aq.2⟩ _).trans (congrArg A.pure ?_);show (Ey (w,nu c w) t c.2.2.2.2.2.2.2.2.2.2,true)=_;rw[anh ay (wi hw)]
theorem Yk(p:Int×Int)(m:z4')(k v:Int):ff (p::m) k v=if decide (k=p.1)=true then (p.1,v)::m else p::ff m k v:=rfl
theorem OX(k v:Int):∀ m:z4',((m.map (·.1)).Nodup->((ff m k v).map (·.1)).Nodup)/\∀ x,x∈(ff m k v).map (·.1)<->x∈m.map (·.1)\/x=k
 | []=>by
  rw[show ff [] k v=[(k,v)] from rfl];simp
 | p::m=>by
  obtain⟨E,U⟩:=OX k v m;rw[Yk];grind
theorem Yl(k v:Int){B:Int}:∀ m:z4',(∀ p∈m,0<=p.2/\p.2<=B)->0<=v/\v<=B->∀ p∈ff m k v,0<=p.2/\p.2<=B
 | [],_,af,p,aq=>by
  rw[show ff [] k v=[(k,v)] from rfl,List.mem_singleton]at aq;grind
 | q::m,h,af,p,aq=>by
  rw[Yk]at aq;split at aq
  ·grind
  ·rcases List.mem_cons.1 aq with rfl | aq
   ·grind
   ·exact Yl k v m (λx ai=>h x (by grind)) af p aq
def lK(c:aX)(w:z1')(u t:Int):Int:=if (ha (b4 c w u) t).2=true then iQ (ha (b4 c w u) t).1.1 else -1
def yw(m:z4')(k:Int):Int:=Option.getD (Option.map (λx=>x.2) (List.find? (λp=>decide (k=p.1)) m)) 0
structure A8(L:z1')(i:Nat)(m:z4'):Prop where
 mD:(m.map (·.1)).Nodup
 mem:∀ x,x∈m.map (·.1)<->x∈L
 val:∀ p∈m,0<=p.2/\p.2<=(i:Int)
theorem A8.add{L:z1'}{i:Nat}{m:z4'}(h:A8 L i m)(k:Int)(G:i<=60):IntKind.wrap .i64 (yw m k+1)=yw m k+1/\A8 (L++[k]) (i+1) (ff m k (yw m k+1)):=by
 have aa:0<=yw m k/\yw m k<=(i:Int):=by
  unfold yw;cases ao:m.find? λp=>decide (k=p.1) with
  | none=>simp
  | some p=>exact h.val p (List.mem_of_find?_eq_some ao)
 refine⟨bF (by omega) (by omega),(OX _ _ _).1 h.mD,λx=>?_,Yl _ _ _ (λp aq=>by have:=h.val p aq;omega) (by omega)⟩;rw[(OX _ _ _).2,h.mem];simp
theorem anj{c:aX}(ay:gJ c){w:z1'}(hw:h6 c w=true){u:Int}(hu:0<=u/\u<=9):((b4 c w u).filter λe=>en e.1 == 1).length<=11:=by
 have al:=Ei ay w u;by_cases ayq:(b4 c w u).length=12
 ·have E:=(OG (Ih hw hu) (by omega:1<(b4 c w u).length)).1;have E:en (b4 c w u)[1].1=2:=E;have hm:=List.getElem_mem (by omega:1<(b4 c w u).length);have:((b4 c w u).filter λe=>en e.1 == 1).length<(b4 c w u).length:=by
   refine List.length_filter_lt_length_iff_exists.2 ⟨_,hm,by grind⟩
  omega
 grind
theorem ank(c:aX)(w w':z1')(u:Int):(((b4 c w u).filter λe=>en e.1 == 1).map (·.1)).Perm (((b4 c w' u).filter λe=>en e.1 == 1).map (·.1)):=by
 have e:∀ w,((b4 c w u).filter λe=>en e.1 == 1).map (·.1)=((b4 c w u).map (·.1)).filter λs=>en s == 1:=λw=>by rw[List.filter_map];rfl
 rw[e,e];exact ((OL c w u).trans (OL c w' u).symm).filter _
theorem OY(c:aX)(w:z1')(u t:Int):lK c w u t=-1\/∃ s∈((b4 c w u).filter λe=>en e.1 == 1).map (·.1),lK c w u t=iQ s:=by
 unfold lK;rcases Yf (b4 c w u) t with h | ⟨E,U,ah⟩
 ·left;rw[h];rfl
 ·by_cases aa:(ha (b4 c w u) t).2=true
  ·right;rw[if_pos aa];rw[ah]at aa;exact⟨_,List.mem_map.2 ⟨_,List.mem_filter.2 ⟨E,by simpa using aa⟩,rfl⟩,rfl⟩
  ·left;rw[if_neg aa]
theorem anl{c:aX}(ay:gJ c){u t:Int}(hu:0<=u/\u<=9){K:z1'}(ax:K.Nodup)(iN:∀ x∈K,x∈(cF c).map λw=>lK c w u t):K.length<=12:=by
 cases aV:cF c with
 | nil=>
  rw[aV]at iN;cases K with
  | nil=>simp
  | cons x K=>have:=iN x (by simp);grind
 | cons w0 T=>
  have As:h6 c w0=true:=wi (by grind);have rh:K ⊆ -1::(((b4 c w0 u).filter λe=>en e.1 == 1).map (·.1)).map iQ:=by
   intro x ai;obtain⟨w,hw,rfl⟩:=List.mem_map.1 (iN x ai);rcases OY c w u t with h | ⟨s,aD,h⟩
   ·grind
   ·rw[h];exact List.mem_cons_of_mem _ (List.mem_map_of_mem ((ank c w w0 u).mem_iff.1 aD))
  have:=ax.length_le_of_subset rh;have ayr:=anj ay As hu;grind
abbrev OZ:aO:=⟨.aB (.bG sV) (.aB (.bG bp) (.bG bp)),dj,λx=>∃ a b:Int,x.2=(some a,some b),λx=>wc (x.2.1.getD 0) (x.2.2.getD 0)⟩
theorem anm(x):A.le (Wu cq.sh yf.sh x) (OZ.sh x):=A.bw λ_=>by
 unfold Wu;rw[amm,A.aK,show yf.sh (x.2.2.getD 0)=A.pure (bX (x.2.2.getD 0) 0 9999) from rfl,A.lE,A.aK,vN];rfl
theorem Ym{c:aX}(ay:gJ c){w:z1'}(hw:h6 c w=true){u:Int}(hu:0<=u/\u<=9)(t:Int):(nr (gz c w u) t).1=lK c w u t:=by rw[(Iq ay hw hu t).1];rfl
theorem ano(x):A.le (Wj we.sh yv.sh sY.sh Ia.sh OZ.sh x) (yp.sh x):=A.sP λh=>by
 obtain⟨c,u,t⟩:=x;change fy c at h;unfold Wj;show A.cy _ λy=>y=ns c u t;unfold ns Il;rw[Ew (b:=wc u t) h λhc=>A.bR ⟨u,t,rfl⟩ _];rcases A4 c (wc u t) with⟨E,U,ah⟩ | ⟨E,U,ah,a6⟩
 ·rw[U,ah];simp only[A.aK];rw[if_pos (by grind)];refine A.eb.2 ?_;simp
 ·rw[E,a6];simp only[A.aK];rw[if_neg (by simp)];have ay:=mJ U;have cN:(0<=u/\u<=9)/\0<=t/\t<=9999:=by
   unfold wc at ah;rw[Bool.and_eq_true,lI,lI]at ah;exact ah
  have hu:=cN.1;have hlen:=Ex h U;simp only[Option.isSome_some,A.br,Option.getD_some];show A.cy (A.bind (A.loop _ ((cF c).map (iB c),_,0,u,t,[],())) _) _;rw[A.gb];refine (A.BV (p:=λz=>∃ m,z=.next (m,())/\A8 ((cF c).map λw=>lK c w u t) 60 m) (λD=>∃ (i:Nat) (m:z4'),i<=(cF c).length/\D=((cF c).map (iB c),(((cF c).map (iB c)).length:Int),(i:Int),u,t,m,())/\A8 (((cF c).take i).map λw=>lK c w u t) i m) (λD=>((cF c).length - D.2.2.1).toNat) ?_ _ ⟨0,[],Nat.zero_le _,rfl,⟨.nil,by simp,by simp⟩⟩).mono ?_
  ·rintro D ⟨i,m,oI,rfl,bo⟩;by_cases G:i<(cF c).length
   ·have ds:i<((cF c).map (iB c)).length:=by grind
    have hw:=bF (n:=(i:Int)+1) (by omega) (by omega);have hm:=List.getElem_mem G;obtain⟨b6,a2⟩:=bo.add (lK c (cF c)[i] u t) (by omega);have pP:((cF c).take (i+1)).map (λw=>lK c w u t)=((cF c).take i).map (λw=>lK c w u t)++[lK c (cF c)[i] u t]:=by
     rw[List.take_add_one,List.getElem?_eq_getElem G,Option.toList_some,List.map_append];rfl
    simp only[Prod.dc,bZ,cX ds,if_true,dk ds,cP ds,A.br,List.getElem_map];rw[Yi ay _ hu.1 hu.2,A.aK];have fin:∀ k,k=lK c (cF c)[i] u t->(∃ (lo:Nat) (dA:z4'),lo<=(cF c).length/\(((cF c).map (iB c),(((cF c).map (iB c)).length:Int),IntKind.wrap .i64 ((i:Int)+1),u,t,ff m k (IntKind.wrap .i64 (yw m k+1)),()):List (Option dQ)×Int×Int×Int×Int×z4'×Unit)=((cF c).map (iB c),(((cF c).map (iB c)).length:Int),(lo:Int),u,t,dA,())/\A8 (((cF c).take lo).map λw=>lK c w u t) lo dA)/\((cF c).length - IntKind.wrap .i64 ((i:Int)+1)).toNat<((cF c).length - (i:Int)).toNat:=by
     grind
    cases aa:(ha (b4 c (cF c)[i] u) t).2 with
    | true=>
     simp only[if_true];rw[A.aK,A.b7];exact A.eb.2 (fin _ (by unfold lK;grind))
    | false=>
     simp only[Bool.false_eq_true,if_false];rw[A.aK,A.b7];exact A.eb.2 (fin (-1) (by unfold lK;grind))
   ·have anp:i=(cF c).length:=by omega
    subst anp;have au:decide (((cF c).length:Int)<(((cF c).map (iB c)).length:Int))=false:=by simp
    simp only[au,Bool.false_eq_true,if_false,A.aK];refine A.eb.2 ⟨m,rfl,bo.mD,?_,λp aq=>by have:=bo.val p aq;omega⟩;have:=bo.mem;grind
  ·rintro z ⟨m,rfl,bo⟩;rw[A.b7];rw[show Ia.sh m=A.pure (jY (some m)) from rfl,A.aK];have anq:m.length<=12:=by
    have:=anl ay hu (t:=t) bo.mD λx ai=>(bo.mem x).1 ai;grind
   rw[show sY.sh (jY (some m))=A.pure (fx hs (m.map (·.1))) from (A.bR (Xs (by omega)) _).trans (congrArg A.pure Xt),A.aK];refine A.eb.2 ?_;have az:fx hs (m.map (·.1))=(d_ (-1) 99).filter λg=>((cF c).map λw=>(nr (gz c w u) t).1).contains g:=by
    have anr:((cF c).map λw=>(nr (gz c w u) t).1)=(cF c).map λw=>lK c w u t:=List.map_congr_left λw hw=>Ym ay (wi hw) hu t;rw[anr];have G:(d_ (-1) 99).Pairwise (·<·):=by
     unfold d_;rw[List.pairwise_map];exact (List.pairwise_lt_range).imp λh=>by omega
    refine AM ((G.filter _).imp λh=>Int.le_of_lt h) ((List.perm_ext_iff_of_nodup bo.mD ((G.filter _).imp λh=>by omega)).2 λk=>?_);rw[bo.mem,List.mem_filter,oW];simp only[List.contains_iff_mem];refine⟨λak=>⟨?_,ak⟩,λak=>ak.2⟩;obtain⟨w,hw,rfl⟩:=List.mem_map.1 ak;rcases OY c w u t with h | ⟨s,aD,h⟩
    ·omega
    ·rw[h];obtain⟨e,he,rfl⟩:=List.mem_map.1 aD;have:=OV ay (List.mem_filter.1 he).1;omega
   rw[az]
def O0(c:aX)(l:List bz)(t:Int):Bool:=(ha l t).2&&decide (mc c.2.2.2.1 (ha l t).1.2 t>=c.2.2.2.2.2.2.2.2.1)
theorem ans{c:aX}(ay:gJ c){w:z1'}(hw:h6 c w=true){u:Int}(hu:0<=u/\u<=9)(t:Int):O0 c (b4 c w u) t=Eo c w u t:=by
 obtain⟨E,U⟩:=Iq ay hw hu t;unfold O0 Eo;grind
theorem ant(x):A.le (Ws we.sh yv.sh wa.sh A7.sh x) (Im.sh x):=A.bw λh=>by
 obtain⟨c,t⟩:=x;change fy c at h;unfold Ws;show _=A.pure (s6 c t);unfold s6;rw[Ew (b:=bX t 0 9999) h λhc=>A.bR ⟨t,rfl,trivial⟩ _];rcases A4 c (bX t 0 9999) with⟨E,U,ah⟩ | ⟨E,U,ah,a6⟩
 ·rw[ah];simp only[A.aK];grind
 ·rw[E,a6];simp only[A.aK];rw[if_neg (by simp),if_neg (by simp)];have ay:=mJ U;have aF:=lI.1 ah;have hlen:=Ex h U;have aV:∀ w∈cF c,h6 c w=true:=λw hw=>wi hw;rw[A.f_ (d_ 0 9) (λi (b:z1'×z1')=>(some (uK c),(i:Int),c,t,b.1,b.2,())) (λu b=>.next (if decide (o4 c (cF c) u t=(cF c).length)=true then b.1++[u] else b.1,if decide (o4 c (cF c) u t > 0)=true then b.2++[u] else b.2)) (λb=>.next (b.1,b.2,())) (λi b=>b.1.length<=i/\b.2.length<=i) ([],[]) ?_ (by simp) ?_ ?_]
  ·rw[eL,A.aK,A.b7];have key:∀ (p q:Int->Bool) (l:z1') (a b:z1'),l.foldl (λ(z:z1'×z1') u=>(if p u=true then z.1++[u] else z.1,if q u=true then z.2++[u] else z.2)) (a,b)=(a++l.filter p,b++l.filter q):=by
    intro p q l;induction l with
    | nil=>simp
    | cons u l aL=>
     intro a b;simp only[List.foldl_cons];rw[aL];cases aq:p u<;>cases bt:q u<;>simp[aq,bt]
   rw[key (λu=>decide (o4 c (cF c) u t=(cF c).length)) (λu=>decide (o4 c (cF c) u t > 0))];simp
  ·rfl
  ·intro i G b iH;have G:i<10:=by simpa [d_]using G
   have hw:=bF (n:=(i:Int)+1) (by omega) (by omega);have au:decide ((i:Int)<10)=true:=by grind
   refine⟨?_,λbe cY=>?_⟩
   ·simp only[au,if_true,DR,Int.zero_add,Prod.dc,Option.isSome_some,A.br,Option.getD_some];rw[A.f_ (cF c) (λk (n:Nat)=>(some (uK c),(i:Int),(n:Int),(i:Int),(cF c).map (iB c),(((cF c).map (iB c)).length:Int),(k:Int),c,t,b.1,b.2,())) (λw n=>.next (if Eo c w i t=true then n+1 else n)) (λn=>.next (some (uK c),(i:Int),(n:Int),(i:Int),c,t,b.1,b.2,())) (λk n=>n<=k) 0 ?_ (by simp) ?_ ?_]
    ·rw[eL];have key:∀ (l:List (z1')) (n:Nat),l.foldl (λn w=>if Eo c w i t=true then n+1 else n) n=n+o4 c l i t:=by
      intro l;induction l with
      | nil=>intro n;rfl
      | cons w l aL=>
       intro n;simp only[List.foldl_cons];rw[aL];unfold o4;grind
     rw[key,Nat.zero_add,A.aK,A.b7];have BS:((cF c).map (iB c)).length=(cF c).length:=List.length_map _;simp only[Prod.dc,Prod.fv,Prod.gR,bZ,Option.isSome_some,A.br,Option.getD_some,BS];have eF:bQ (Add.add b.1.length (Add.add 0 1)):=fw (by grind);have mj:bQ (Add.add b.2.length (Add.add 0 1)):=fw (by grind);have d1:decide ((o4 c (cF c) i t:Int) > 0)=decide (o4 c (cF c) i t > 0):=by simp
     have d2:decide ((o4 c (cF c) i t:Int)=((cF c).length:Int))=decide (o4 c (cF c) i t=(cF c).length):=by grind
     rw[d1];cases E:decide (o4 c (cF c) i t > 0)<;>cases U:decide (o4 c (cF c) i t=(cF c).length)<;>
      simp only[if_true,Bool.false_eq_true,if_false,A.bq eF,A.bq mj,A.aK,A.b7,Option.isSome_some,A.br,Option.getD_some,BS,d2,U,cp,hw,W.ho]<;>rfl
    ·rfl
    ·intro k ak n ax;have v7:k<((cF c).map (iB c)).length:=by grind
     have hw:=bF (n:=(k:Int)+1) (by omega) (by omega);have gZ:=bF (n:=(n:Int)+1) (by omega) (by omega);have kV:=aV _ (List.getElem_mem ak);have me:=En U kV;have hu:0<=(i:Int)/\(i:Int)<=9:=by omega
     have tR:=ans ay kV hu t;obtain⟨ck,da⟩:=Iq ay kV hu t;refine⟨?_,λbe cY=>?_⟩
     ·simp only[Prod.dc,Prod.fv,Prod.gR,Prod.iz,Prod.jX,Prod.k2,bZ,cX v7,if_true,dk v7,cP v7,A.br,cp,hw,List.getElem_map];rw[Yi ay _ hu.1 hu.2,A.aK,<-tR];unfold O0;cases aa:(ha (b4 c (cF c)[k] (i:Int)) t).2 with
      | true=>
       have Co:AW (c,(ha (b4 c (cF c)[k] (i:Int)) t).1.2,t):=by
        have:=amn ay me aF.2 (u:=(i:Int)) (t:=t) (by grind);grind
       have anu:wa.sh (c,(ha (b4 c (cF c)[k] (i:Int)) t).1.2,t)=A.pure (mc c.2.2.2.1 (ha (b4 c (cF c)[k] (i:Int)) t).1.2 t):=A.bR Co _;simp only[anu,A.iX,A.fG,Bool.true_and,and_self,forall_const,A.br,true_and];by_cases hm:mc c.2.2.2.1 (ha (b4 c (cF c)[k] (i:Int)) t).1.2 t>=c.2.2.2.2.2.2.2.2.1
       ·simp_all
       ·simp only[hm,decide_false,Bool.false_eq_true,if_false,A.aK,A.b7,hw,W.ho];rfl
      | false=>
       simp_all
     grind
    simp
   grind
  ·intro b iH;rfl
def Yn(Ez:aX->A Int)(x:aX):A Bool:=
 if (decide (Int.ofNat (List.length x.1) > 20)||decide (Int.ofNat (List.length x.2.1) > 40)||decide (Int.ofNat (List.length x.2.2.1) > 60)||decide (Int.ofNat (List.length x.2.2.2.1) > 40))=true then A.pure true else A.bind (Ez x) λy=>if decide (y≠0)=true then A.pure false else A.bind (A.loop (λ(D:Int×Int×aX×Unit)=>letI b:=List.getD D.2.2.1.1 (Int.toNat D.2.1) (0,0);letI a:=D.2.1<Int.ofNat (List.length D.2.2.1.1);if decide a=true then A.ae (0<=D.2.1/\a) (A.ae (0<=D.2.1/\a) (A.pure (W.next (IntKind.wrap .i64 (D.1*IntKind.wrap .i64 (Add.add (IntKind.wrap .i64 (b.2-b.1)) 1)),IntKind.wrap .i64 (Add.add D.2.1 1),D.2.2.1,())))) else A.bind (A.pure (W.next (D.1,()))) λr=>A.pure (W.done r)) (1,0,x,())) (W.bC (λ(D:Int×Unit)=>A.pure (decide (D.1 > 60))))
def k7(c:aX):Bool:=decide (c.1.length > 20)||decide (c.2.1.length > 40)||decide (c.2.2.1.length > 60)||decide (c.2.2.2.1.length > 40)||(decide (b' c=0)&&decide (kn c.1 > 60))
theorem Yo:∀ (l:z4') (n:Nat),l.foldl (λn s=>n*(s.2 - s.1+1).toNat) n=n*kn l
 | [],n=>by simp[kn]
 | s::l,n=>by simp only[List.foldl_cons,kn];rw[Yo l,Nat.mul_assoc]
abbrev wj:aO:=⟨iA,dj,jE,k7⟩
theorem anv(x):A.le (Yn g_.sh x) (wj.sh x):=A.bw λh=>by
 unfold Yn;show _=A.pure (k7 x);simp only[bZ];by_cases aD:(decide ((x.1.length:Int) > 20)||decide ((x.2.1.length:Int) > 40)||decide ((x.2.2.1.length:Int) > 60)||decide ((x.2.2.2.1.length:Int) > 40))=true
 ·rw[if_pos aD];refine congrArg A.pure ?_;unfold k7;grind
 ·rw[if_neg aD,show g_.sh x=A.pure (b' x) from A.bR h _,A.aK];have e:k7 x=(decide (b' x=0)&&decide (kn x.1 > 60)):=by
   unfold k7;grind
  rw[e];by_cases hc:b' x=0
  ·have ay:=mJ hc;rw[if_neg (by grind)];have ax:=ay.dZ;rw[A.f_ x.1 (λi (n:Nat)=>((n:Int),(i:Int),x,())) (λs n=>.next (n*(s.2 - s.1+1).toNat)) (λn=>.next ((n:Int),())) (λi n=>n<=61 ^ i) 1 ?_ ?_ ?_ ?_]
   ·rw[eL,Yo,Nat.one_mul,A.aK,A.b7];grind
   ·rfl
   ·simp
   ·intro i G n h3;have ak:=ay.clk _ (List.getElem_mem G);have aa:n<=61 ^ 3:=Nat.le_trans h3 (Nat.pow_le_pow_right (by omega) (by omega));have hw:=bF (n:=(i:Int)+1) (by omega) (by omega);have ck:=bF (n:=x.1[i].2 - x.1[i].1) (by omega) (by omega);have da:=bF (n:=x.1[i].2 - x.1[i].1+1) (by omega) (by omega);have zJ:((n*(x.1[i].2 - x.1[i].1+1).toNat:Nat):Int)=(n:Int)*(x.1[i].2 - x.1[i].1+1):=by
     grind
    have hm:n*(x.1[i].2 - x.1[i].1+1).toNat<=61 ^ (i+1):=by
     rw[Nat.pow_succ];exact Nat.mul_le_mul h3 (by omega)
    have Hv:n*(x.1[i].2 - x.1[i].1+1).toNat<=61 ^ 4:=Nat.le_trans hm (Nat.pow_le_pow_right (by omega) (by omega));have eZ:=bF (n:=(n:Int)*(x.1[i].2 - x.1[i].1+1)) (by omega) (by omega);simp_all
   simp
  grind
theorem anw{c:aX}(h:k7 c=false):fy c:=by
 unfold k7 at h;simp only[Bool.or_eq_false_iff,decide_eq_false_iff_not,Bool.and_eq_false_imp,decide_eq_true_eq]at h;obtain⟨⟨⟨⟨E,U⟩,ah⟩,a6⟩,bL⟩:=h;exact⟨⟨by omega,by omega,by omega,by omega⟩,λhc=>by omega⟩
end Go.Fer.H
