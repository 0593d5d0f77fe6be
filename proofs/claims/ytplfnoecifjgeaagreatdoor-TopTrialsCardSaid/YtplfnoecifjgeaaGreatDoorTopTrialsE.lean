/- Part 5 of the proof of TopTrials: shallow programs of Go functions, and what they compute. No condition. -/
import Derived.Test.YtplfnoecifjgeaaGreatDoorTopTrialsD
noncomputable section
set_option linter.unusedVariables false
set_option linter.unusedSimpArgs false
namespace Go.Fer.H
open A (V)
set_option maxRecDepth 100000
abbrev a_:Type:=Int×Int×Int×Int×Int×Int
abbrev py:Type:=Int×Int×Int×Int×Int×Int×Int
abbrev aZ:Type:=z4'×List a_×z1'×z4'×py
abbrev bA:Type:=a_×Int
abbrev dQ:Type:=z1'×List (List bA)
abbrev d':Type:=aZ×List a_×List (Option dQ)
abbrev hn:Type:=z4'×List a_×z1'×z4'×Int×Int×Int×Int×Int×Int×Int×List a_×List (Option dQ)×Unit
abbrev fc(l:z4')(a b:Int):z4':=lN (k:=.int .i64) (v:=.int .i64) l a b
abbrev ho:ad:=.st (.ay (.int .i64) (.ay (.int .i64) (.ay (.int .i64) (.ay (.int .i64) (.ay (.int .i64) (.int .i64))))))
abbrev kW(l:List (Int×a_))(a:Int)(b:a_):List (Int×a_):=lN (k:=.int .i64) (v:=ho) l a b
abbrev akh:List UInt8:=0::1::(List.replicate 2 2++(List.replicate 4 3++(List.replicate 8 4++(List.replicate 16 5++(List.replicate 32 6++(List.replicate 64 7++List.replicate 128 8))))))
abbrev _root_.Prod.c_{fM fN fO fP fQ fC fD:Type}(x:fM×fN×fO×fP×fQ×fC×fD):fC:=x.2.2.2.2.2.1
abbrev _root_.Prod.fs{fM fN fO fP fQ fC fD f':Type}(x:fM×fN×fO×fP×fQ×fC×fD×f'):fD:=x.2.2.2.2.2.2.1
abbrev _root_.Prod.gO{fM fN fO fP fQ fC fD f' gB:Type}(x:fM×fN×fO×fP×fQ×fC×fD×f'×gB):f':=x.2.2.2.2.2.2.2.1
abbrev _root_.Prod.iq{fM fN fO fP fQ fC fD f' gB gP:Type}(x:fM×fN×fO×fP×fQ×fC×fD×f'×gB×gP):gB:=x.2.2.2.2.2.2.2.2.1
abbrev _root_.Prod.jQ{fM fN fO fP fQ fC fD f' gB gP hp:Type}(x:fM×fN×fO×fP×fQ×fC×fD×f'×gB×gP×hp):gP:=x.2.2.2.2.2.2.2.2.2.1
abbrev _root_.Prod.kX{fM fN fO fP fQ fC fD f' gB gP hp hL:Type}(x:fM×fN×fO×fP×fQ×fC×fD×f'×gB×gP×hp×hL):hp:=x.2.2.2.2.2.2.2.2.2.2.1
abbrev _root_.Prod.hM{fM fN fO fP fQ fC fD f' gB gP hp hL h_:Type}(x:fM×fN×fO×fP×fQ×fC×fD×f'×gB×gP×hp×hL×h_):hL:=x.2.2.2.2.2.2.2.2.2.2.2.1
abbrev _root_.Prod.nd{fM fN fO fP fQ fC fD f' gB gP hp hL h_ iM:Type}(x:fM×fN×fO×fP×fQ×fC×fD×f'×gB×gP×hp×hL×h_×iM):h_:=x.2.2.2.2.2.2.2.2.2.2.2.2.1
abbrev _root_.Prod.pz{fM fN fO fP fQ fC fD f' gB gP hp hL h_ iM jt:Type}(x:fM×fN×fO×fP×fQ×fC×fD×f'×gB×gP×hp×hL×h_×iM×jt):iM:=x.2.2.2.2.2.2.2.2.2.2.2.2.2.1
abbrev _root_.Prod.sK{fM fN fO fP fQ fC fD f' gB gP hp hL h_ iM jt ki:Type}(x:fM×fN×fO×fP×fQ×fC×fD×f'×gB×gP×hp×hL×h_×iM×jt×ki):jt:=x.2.2.2.2.2.2.2.2.2.2.2.2.2.2.1
abbrev _root_.Prod.x7{fM fN fO fP fQ fC fD f' gB gP hp hL h_ iM jt ki kY:Type}(x:fM×fN×fO×fP×fQ×fC×fD×f'×gB×gP×hp×hL×h_×iM×jt×ki×kY):ki:=x.2.2.2.2.2.2.2.2.2.2.2.2.2.2.2.1
abbrev _root_.Prod.DV{fM fN fO fP fQ fC fD f' gB gP hp hL h_ iM jt ki kY l4:Type}(x:fM×fN×fO×fP×fQ×fC×fD×f'×gB×gP×hp×hL×h_×iM×jt×ki×kY×l4):kY:=x.2.2.2.2.2.2.2.2.2.2.2.2.2.2.2.2.1
abbrev _root_.Prod.DW{fM fN fO fP fQ fC fD f' gB gP hp hL h_ iM jt ki kY l4 nf:Type}(x:fM×fN×fO×fP×fQ×fC×fD×f'×gB×gP×hp×hL×h_×iM×jt×ki×kY×l4×nf):l4:=x.2.2.2.2.2.2.2.2.2.2.2.2.2.2.2.2.2.1
abbrev _root_.Prod.DX{fM fN fO fP fQ fC fD f' gB gP hp hL h_ iM jt ki kY l4 nf oQ:Type}(x:fM×fN×fO×fP×fQ×fC×fD×f'×gB×gP×hp×hL×h_×iM×jt×ki×kY×l4×nf×oQ):nf:=x.2.2.2.2.2.2.2.2.2.2.2.2.2.2.2.2.2.2.1
abbrev _root_.Prod.DY{fM fN fO fP fQ fC fD f' gB gP hp hL h_ iM jt ki kY l4 nf oQ qv:Type}(x:fM×fN×fO×fP×fQ×fC×fD×f'×gB×gP×hp×hL×h_×iM×jt×ki×kY×l4×nf×oQ×qv):oQ:=x.2.2.2.2.2.2.2.2.2.2.2.2.2.2.2.2.2.2.2.1
abbrev _root_.Prod.N2{fM fN fO fP fQ fC fD f' gB gP hp hL h_ iM jt ki kY l4 nf oQ qv sL:Type}(x:fM×fN×fO×fP×fQ×fC×fD×f'×gB×gP×hp×hL×h_×iM×jt×ki×kY×l4×nf×oQ×qv×sL):qv:=x.2.2.2.2.2.2.2.2.2.2.2.2.2.2.2.2.2.2.2.2.1
abbrev _root_.Prod.N3{fM fN fO fP fQ fC fD f' gB gP hp hL h_ iM jt ki kY l4 nf oQ qv sL vO:Type}(x:fM×fN×fO×fP×fQ×fC×fD×f'×gB×gP×hp×hL×h_×iM×jt×ki×kY×l4×nf×oQ×qv×sL×vO):sL:=x.2.2.2.2.2.2.2.2.2.2.2.2.2.2.2.2.2.2.2.2.2.1
abbrev _root_.Prod.N4{fM fN fO fP fQ fC fD f' gB gP hp hL h_ iM jt ki kY l4 nf oQ qv sL vO Av:Type}(x:fM×fN×fO×fP×fQ×fC×fD×f'×gB×gP×hp×hL×h_×iM×jt×ki×kY×l4×nf×oQ×qv×sL×vO×Av):vO:=x.2.2.2.2.2.2.2.2.2.2.2.2.2.2.2.2.2.2.2.2.2.2.1
abbrev _root_.Prod.ry{fM fN fO fP fQ fC fD f' gB gP hp hL h_ iM jt ki kY l4 nf oQ qv sL vO Av HJ:Type}(x:fM×fN×fO×fP×fQ×fC×fD×f'×gB×gP×hp×hL×h_×iM×jt×ki×kY×l4×nf×oQ×qv×sL×vO×Av×HJ):Av:=x.2.2.2.2.2.2.2.2.2.2.2.2.2.2.2.2.2.2.2.2.2.2.2.1
abbrev _root_.Prod.DZ{fM fN fO fP fQ fC fD f' gB gP hp hL h_ iM jt ki kY l4 nf oQ qv sL vO Av HJ aki:Type}(x:fM×fN×fO×fP×fQ×fC×fD×f'×gB×gP×hp×hL×h_×iM×jt×ki×kY×l4×nf×oQ×qv×sL×vO×Av×HJ×aki):HJ:=x.2.2.2.2.2.2.2.2.2.2.2.2.2.2.2.2.2.2.2.2.2.2.2.2.1
def V_(uk:aZ×(Option d'->A Bool)->A (Option d'×Int))(D0:Option dQ×Int×Int->A (bA×Bool))(D1:(z1'->Prop)->A (z1'))(akj:z4'->A (z1'->Prop))(akk:Option d'×Option Int×Option Int->A Bool)(x:aZ×Int×Int):A (z1'×Int):=
 A.bind (uk (x.1,λhy=>akk (hy,some x.2.1,some x.2.2))) λy=>letI a:=(Option.getD y.1 (([],[],[],[],0,0,0,0,0,0,0),[],[])).2.2;if decide (y.2≠0)=true then A.pure ([],y.2) else A.bind (A.ab (Option.isSome y.1=true) (A.loop (λ(D:List (Option dQ)×Int×Int×Int×Int×z4'×Unit)=>letI b:=D.2.2;if decide (b.1<D.2.1)=true then A.bind (A.ab (0<=b.1/\b.1<Int.ofNat (List.length D.1)) (A.bind (D0 (List.getD D.1 (Int.toNat b.1) none,b.2.1,b.2.2.1)) (λy=>if y.2=true then A.pure (V.next (D.1,D.2.1,b.1,b.2.1,b.2.2.1,fc D.c_ y.1.1.2.2.2.2.2 (IntKind.wrap .i64 (Add.add (Option.getD (Option.map (λx=>x.2) (List.find? (λp=>decide (y.1.1.2.2.2.2.2=p.1)) D.c_)) 0) 1)),())) else A.pure (V.next (D.1,D.2.1,b.1,b.2.1,b.2.2.1,fc D.c_ (-1) (IntKind.wrap .i64 (Add.add (Option.getD (Option.map (λx=>x.2) (List.find? (λp=>decide (-1=p.1)) D.c_)) 0) 1)),()))))) (V.bx (λ(D:List (Option dQ)×Int×Int×Int×Int×z4'×Unit)=>A.pure (V.next (D.1,D.2.1,IntKind.wrap .i64 (Add.add D.2.2.1 1),D.2.2.2.1,D.2.2.2.2.1,D.c_,())))) else A.bind (A.pure (V.next (D.c_,()))) λr=>A.pure (V.done r)) (a,Int.ofNat (List.length a),0,x.2.1,x.2.2,[],()))) (V.bx (λ(D:z4'×Unit)=>A.bind (akj D.1) λy=>A.bind (D1 y) λy=>A.pure (y,0)))
def V'(x:aZ):A aZ:=
 A.ab (bP (Add.add 0 (List.length x.1))) (A.ab (bP (Add.add 0 (List.length x.2.1))) (A.ab (bP (Add.add 0 (List.length x.2.2.1))) (A.ab (bP (Add.add 0 (List.length x.2.2.2.1))) (A.pure ([]++x.1,[]++x.2.1,[]++x.2.2.1,[]++x.2.2.2.1,x.2.2.2.2)))))
def Wa(N5:aZ×Int×(Int->A Int)->A ((Int×Int)×Int))(akl:Int×Option aZ->A Int)(x:aZ×Int):A ((Int×Int)×Int):=
 A.bind (N5 (x.1,x.2,λhy=>akl (hy,some x.1))) λy=>A.pure y
def Wb(N5:aZ×Int×(Int->A Int)->A ((Int×Int)×Int))(akm:Int->A Int)(x:aZ×Int):A ((Int×Int)×Int):=
 A.bind (N5 (x.1,x.2,akm)) λy=>A.pure y
def Wc(uk:aZ×(Option d'->A Bool)->A (Option d'×Int))(D2:Option d'×(Option dQ->A (Int×Bool))->A ((Int×Int)×Bool))(akn:Option d'×Option Int->A Bool)(ako:Option dQ×Option Int×Option aZ->A (Int×Bool))(x:aZ×Int):A ((Int×Int)×Int):=
 A.bind (uk (x.1,λhy=>akn (hy,some x.2))) λy=>if decide (y.2≠0)=true then A.pure ((0,0),y.2) else A.bind (D2 (y.1,λhy=>ako (hy,some x.2,some x.1))) λy=>A.pure (y.1,0)
def Wd(uk:aZ×(Option d'->A Bool)->A (Option d'×Int))(D2:Option d'×(Option dQ->A (Int×Bool))->A ((Int×Int)×Bool))(akp:Option d'×Option Int->A Bool)(akq:Option dQ×Option (Option d')×Option Int×Option aZ->A (Int×Bool))(x:aZ×Int):A ((Int×Int)×Int):=
 A.bind (uk (x.1,λhy=>akp (hy,some x.2))) λy=>if decide (y.2≠0)=true then A.pure ((0,0),y.2) else A.bind (D2 (y.1,λhy=>akq (hy,some y.1,some x.2,some x.1))) λy=>A.pure (y.1,0)
def We(akr:aZ->A Bool)(N6:List a_->A (List a_×Bool))(x:aZ):A Int:=
 A.bind (akr x) λy=>if (!y)=true then A.pure 90 else A.bind (N6 x.2.1) λy=>if (!y.2)=true then A.pure 91 else A.pure 0
def Wf(aks:aZ->A Bool)(Wg:a_×Int×Int×Int×Int×Int×Int->A Bool)(x:aZ):A Int:=
 A.bind (aks x) λy=>if (!y)=true then A.pure 90 else A.bind (A.loop (λ(D:Int×aZ×Unit)=>if decide (D.1<Int.ofNat (List.length D.2.1.2.1))=true then A.bind (A.loop (λ(D:Int×Int×aZ×Unit)=>letI c:=D.2.2.1;letI b:=Int.ofNat (List.length c.2.1);letI a:=(List.getD c.2.1 (Int.toNat D.2.1) (0,0,0,0,0,0),List.getD c.2.1 (Int.toNat D.1) (0,0,0,0,0,0));if decide (D.2.1<D.1)=true then A.ab (0<=D.2.1/\D.2.1<b) (A.ab (0<=D.1/\D.1<b) (A.ab (Wg a).ck (if A.val (Wg a) false=true then A.bind (A.bind (A.bind (A.bind (A.pure 91) (λr=>A.pure (V.done r))) (λr=>A.pure (V.done r))) (λr=>A.pure (V.done r))) λr=>A.pure (V.done r) else A.pure (V.next (D.1,IntKind.wrap .i64 (Add.add D.2.1 1),c,()))))) else A.bind (A.pure (V.next (D.1,c,()))) λr=>A.pure (V.done r)) (D.1,0,D.2.1,())) (V.bx (λ(D:Int×aZ×Unit)=>A.pure (V.next (IntKind.wrap .i64 (Add.add D.1 1),D.2.1,())))) else A.bind (A.pure (V.next ())) λr=>A.pure (V.done r)) (0,x,())) (V.bx (λ(D:Unit)=>A.pure 0))
def Wh(uk:aZ×(Option d'->A Bool)->A (Option d'×Int))(D0:Option dQ×Int×Int->A (bA×Bool))(Aw:aZ×Int×Int->A Int)(akt:Option d'×Option Int->A Bool)(x:aZ×Int):A (z1'×z1'×Int):=
 A.bind (uk (x.1,λhy=>akt (hy,some x.2))) λy=>if decide (y.2≠0)=true then A.pure ([],[],y.2) else A.bind (A.loop (λ(D:Option d'×Int×aZ×Int×z1'×z1'×Unit)=>letI b:=(Option.getD D.1 (([],[],[],[],0,0,0,0,0,0,0),[],[])).2.2;if decide (D.2.1<10)=true then A.bind (A.bind (A.ab (Option.isSome D.1=true) (A.loop (λ(D:Option d'×Int×Int×Int×List (Option dQ)×Int×Int×aZ×Int×z1'×z1'×Unit)=>letI d:=D.2.2.2;if decide (D.fs<D.c_)=true then A.bind (A.ab (0<=D.fs/\D.fs<Int.ofNat (List.length d.2.1)) (A.bind (D0 (List.getD d.2.1 (Int.toNat D.fs) none,D.2.1,D.iq)) (λy=>letI a:=y.2=true;letI c:=a->a/\True/\True;A.ab c (A.ab (a->(a/\a/\a/\True)/\(Aw (D.gO,y.1.2,D.iq)).ck/\True) (A.ab c (A.ab c (A.ab (a->(a/\a)/\True/\True) (A.ab (True/\(a->a)) (if (y.2&&decide (A.val (Aw (D.gO,y.1.2,D.iq)) 0>=D.gO.iq))=true then A.pure (V.next (D.1,D.2.1,IntKind.wrap .i64 (Add.add D.2.2.1 1),d.1,d.2.1,D.c_,D.fs,D.gO,D.iq,D.jQ,D.kX,())) else A.pure (V.next (D.1,D.2.1,D.2.2.1,d.1,d.2.1,D.c_,D.fs,D.gO,D.iq,D.jQ,D.kX,()))))))))))) (V.bx (λ(D:Option d'×Int×Int×Int×List (Option dQ)×Int×Int×aZ×Int×z1'×z1'×Unit)=>A.pure (V.next (D.1,D.2.1,D.2.2.1,D.2.2.2.1,D.2.2.2.2.1,D.c_,IntKind.wrap .i64 (Add.add D.fs 1),D.gO,D.iq,D.jQ,D.kX,())))) else A.bind (A.pure (V.next (D.1,D.2.1,D.2.2.1,d.1,D.gO,D.iq,D.jQ,D.kX,()))) λr=>A.pure (V.done r)) (D.1,D.2.1,0,D.2.1,b,Int.ofNat (List.length b),0,D.2.2.1,D.2.2.2.1,D.2.2.2.2.1,D.c_,()))) (V.bx (λ(D:Option d'×Int×Int×Int×aZ×Int×z1'×z1'×Unit)=>letI e:=D.2.2;A.bind (if decide (e.1 > 0)=true then A.ab (bP (Add.add (List.length D.gO) (Add.add 0 1))) (A.pure (V.next (D.1,D.2.1,e.1,e.2.1,e.2.2.1,D.c_,D.fs,D.gO++[D.2.1],()))) else A.pure (V.next (D.1,D.2.1,e.1,e.2.1,e.2.2.1,D.c_,D.fs,D.gO,()))) (V.bx (λ(D:Option d'×Int×Int×Int×aZ×Int×z1'×z1'×Unit)=>letI f:=D.2.2.2;A.ab (Option.isSome D.1=true) (if decide (D.2.2.1=Int.ofNat (List.length (Option.getD D.1 (([],[],[],[],0,0,0,0,0,0,0),[],[])).2.2))=true then A.ab (bP (Add.add (List.length D.fs) (Add.add 0 1))) (A.pure (V.next (D.1,f.1,f.2.1,D.c_,D.fs++[D.2.1],D.gO,()))) else A.pure (V.next (D.1,f.1,f.2.1,D.c_,D.fs,D.gO,())))))))) (V.bx (λ(D:Option d'×Int×aZ×Int×z1'×z1'×Unit)=>A.pure (V.next (D.1,IntKind.wrap .i64 (Add.add D.2.1 1),D.2.2.1,D.2.2.2.1,D.2.2.2.2.1,D.c_,())))) else A.bind (A.pure (V.next (D.2.2.2.2.1,D.c_,()))) λr=>A.pure (V.done r)) (y.1,0,x.1,x.2,[],[],())) (V.bx (λ(D:z1'×z1'×Unit)=>A.pure (D.1,D.2.1,0)))
def Wi(Ax:aZ->A Int)(aku:List a_×Unit->A (Bool×List a_×Unit))(akv:(Int×Int×Int×Int×Int×Int->A Bool)×List a_×Unit->A ((Nat×Nat)×List a_×Unit))(N7:z1'×hn->A (hn))(akw:a_×Option aZ->A Bool)(x:aZ×(Option d'->A Bool)):A (Option d'×Int):=
 A.bind (Ax x.1) λy=>if decide (y≠0)=true then A.pure (none,y) else A.bind (aku (x.1.2.1,())) λy=>A.ab True (A.ab True (A.bind (akv (λhy=>akw (hy,some x.1),y.2.1,())) (λy=>A.ab True (A.bind (A.bind (x.2 (some (x.1,List.drop y.1.1 (List.take y.1.2 y.2.1),[]))) (λb2=>if (!b2)=true then A.bind (A.pure (none,1)) λr=>A.pure (V.done r) else A.pure (V.next (x.1.1,x.1.2.1,x.1.2.2.1,x.1.2.2.2.1,x.1.2.2.2.2.1,x.1.c_,x.1.fs,x.1.gO,x.1.iq,x.1.jQ,x.1.2.2.2.2.2.2.2.2.2.2,y.1,y.2.1,[],())))) (V.bx (λ(D:z4'×List a_×z1'×z4'×Int×Int×Int×Int×Int×Int×Int×(Nat×Nat)×List a_×List (Option dQ)×Unit)=>A.bind (N7 ([],D.1,D.2.1,D.2.2.1,D.2.2.2.1,D.2.2.2.2.1,D.c_,D.fs,D.gO,D.iq,D.jQ,D.kX,List.drop D.hM.1 (List.take D.hM.2 D.nd),D.pz,())) λy=>A.ab True (if decide (Int.ofNat (List.length y.nd)=0)=true then A.pure (none,3) else A.pure (some ((y.1,y.2.1,y.2.2.1,y.2.2.2.1,y.2.2.2.2.1,y.c_,y.fs,y.gO,y.iq,y.jQ,y.kX),y.hM,y.nd),0))))))))
def Wj(ju:Int×Int×Int->A Bool)(D3:Int->A Bool)(x:Option d'×Option Int×Option Int):A Bool:=
 A.bind (ju (Option.getD x.2.1 0,0,9)) λy=>A.bind (cq y (D3 (Option.getD x.2.2 0)) false) λb2=>A.pure (y&&b2)
def akx(x:Int×Int×Int):A Bool:=
 A.pure (decide (x.2.1<=x.1)&&decide (x.1<=x.2.2))
def Wk(ju:Int×Int×Int->A Bool)(x:Int):A Bool:=
 A.bind (ju (x,0,9999)) λy=>A.pure y
def Wl(x:Option dQ×Int×Int):A (bA×Bool):=
 letI b:=List.getD (Option.getD x.1 ([],[[],[],[],[],[],[],[],[],[],[]])).2 (Int.toNat x.2.1) [];A.bind (A.ab (Option.isSome x.1=true) (A.ab (0<=x.2.1/\x.2.1<Int.ofNat 10) (A.loop (λ(D:Int×Bool×List bA×Int×Int×bA×bA×Unit)=>letI d:=D.2.2;letI c:=d.2.2.1;letI a:=List.getD d.1 (Int.toNat c) ((0,0,0,0,0,0),0);if decide (c<d.2.1)=true then A.bind (A.ab (0<=c/\c<Int.ofNat (List.length d.1)) (if decide (a.2<=D.1)=true then A.pure (V.next (D.1,decide (a.1.2.2.2.1=1),d.1,d.2.1,c,D.c_,a,())) else A.pure (V.next (D.1,D.2.1,d.1,d.2.1,c,D.c_,D.fs,())))) (V.bx (λ(D:Int×Bool×List bA×Int×Int×bA×bA×Unit)=>A.pure (V.next (D.1,D.2.1,D.2.2.1,D.2.2.2.1,IntKind.wrap .i64 (Add.add D.2.2.2.2.1 1),D.c_,D.fs,())))) else A.bind (A.pure (V.next (D.2.1,D.c_,D.fs,()))) λr=>A.pure (V.done r)) (x.2.2,false,b,Int.ofNat (List.length b),0,((0,0,0,0,0,0),0),((0,0,0,0,0,0),0),())))) (V.bx (λ(D:Bool×bA×bA×Unit)=>A.pure (D.2.2.1,D.1)))
def Wm(N8:z1'×Unit->A (z1'×Unit))(aky:(z1'->Prop)×Unit->A (z1'×Unit))(x:z1'->Prop):A (z1'):=
 A.bind (aky (x,())) λy=>A.bind (N8 (y.1,())) λy=>A.pure y.1
def akz(akA:Option (z4')->z1'->Prop)(x:z4'):A (z1'->Prop):=
 A.pure (akA (some x))
def Wn(uk:aZ×(Option d'->A Bool)->A (Option d'×Int))(D2:Option d'×(Option dQ->A (Int×Bool))->A ((Int×Int)×Bool))(akB:Option d'×Option Int->A Bool)(akC:Option dQ×Option (Option d')×Option Int×Option (Int->A Int)->A (Int×Bool))(x:aZ×Int×(Int->A Int)):A ((Int×Int)×Int):=
 A.bind (uk (x.1,λhy=>akB (hy,some x.2.1))) λy=>if decide (y.2≠0)=true then A.pure ((0,0),y.2) else A.bind (D2 (y.1,λhy=>akC (hy,some y.1,some x.2.1,some x.2.2))) λy=>if (!y.2)=true then A.pure ((0,0),3) else A.pure (y.1,0)
def Wo(HK:py×Int->A Int)(x:Int×Option aZ):A Int:=
 A.bind (HK ((Option.getD x.2 ([],[],[],[],0,0,0,0,0,0,0)).2.2.2.2,x.1)) λy=>A.pure y
def Wp(x:py×Int):A Int:=
 letI c:=x.1.2;letI b:=IntKind.wrap .i64 (x.2-x.1.1);letI a:=IntKind.wrap .i64 (c.2.1*IntKind.wrap .i64 (Int.tdiv (IntKind.wrap .i64 (IntKind.wrap .i64 (Add.add (if b > 0 then b else 0) c.1)-1)) c.1));if decide (x.2>=c.2.2.2.1)=true then A.pure x.1.c_ else A.ab (c.1≠0) (A.pure (if a<c.2.2.1 then a else c.2.2.1))
def akD(x:Int):A Int:=
 A.pure x
def Wq(D3:Int->A Bool)(x:Option d'×Option Int):A Bool:=
 A.bind (D3 (Option.getD x.2 0)) λy=>A.pure y
def Wr(x:Option d'×(Option dQ->A (Int×Bool))):A ((Int×Int)×Bool):=
 letI b:=(Option.getD x.1 (([],[],[],[],0,0,0,0,0,0,0),[],[])).2.2;A.bind (A.ab (Option.isSome x.1=true) (A.loop (λ(D:(Option dQ->A (Int×Bool))×Bool×List (Option dQ)×Int×Int×(Int×Int)×Unit)=>letI c:=D.2.2;letI a:=c.2.2.1;if decide (a<c.2.1)=true then A.bind (A.ab (0<=a/\a<Int.ofNat (List.length c.1)) (A.bind (D.1 (List.getD c.1 (Int.toNat a) none)) (λy=>if (!y.2)=true then A.pure (V.next (D.1,D.2.1,c.1,c.2.1,a,D.c_,())) else if (!D.2.1)=true then A.pure (V.next (D.1,true,c.1,c.2.1,a,(y.1,y.1),())) else A.pure (V.next (D.1,D.2.1,c.1,c.2.1,a,(if y.1<D.c_.1 then y.1 else D.c_.1,if y.1 > D.c_.2 then y.1 else D.c_.2),()))))) (V.bx (λ(D:(Option dQ->A (Int×Bool))×Bool×List (Option dQ)×Int×Int×(Int×Int)×Unit)=>A.pure (V.next (D.1,D.2.1,D.2.2.1,D.2.2.2.1,IntKind.wrap .i64 (Add.add D.2.2.2.2.1 1),D.c_,())))) else A.bind (A.pure (V.next (D.2.1,D.c_,()))) λr=>A.pure (V.done r)) (x.2,false,b,Int.ofNat (List.length b),0,(0,0),()))) (V.bx (λ(D:Bool×(Int×Int)×Unit)=>A.pure (D.2.1,D.1)))
def Ws(D0:Option dQ×Int×Int->A (bA×Bool))(x:Option dQ×Option Int×Option aZ):A (Int×Bool):=
 A.bind (A.loop (λ(D:Option dQ×Int×aZ×Int×Int×Unit)=>letI a:=D.2.2.2;if decide (a.2.1<10)=true then A.bind (A.bind (D0 (D.1,a.2.1,D.2.1)) (λy=>if y.2=true then A.pure (V.next (D.1,D.2.1,D.2.2.1,IntKind.wrap .i64 (Add.add a.1 D.2.2.1.2.2.2.2.2.2.2.2.2.2),a.2.1,())) else A.pure (V.next (D.1,D.2.1,D.2.2.1,a.1,a.2.1,())))) (V.bx (λ(D:Option dQ×Int×aZ×Int×Int×Unit)=>A.pure (V.next (D.1,D.2.1,D.2.2.1,D.2.2.2.1,IntKind.wrap .i64 (Add.add D.2.2.2.2.1 1),())))) else A.bind (A.pure (V.next (a.1,()))) λr=>A.pure (V.done r)) (x.1,Option.getD x.2.1 0,Option.getD x.2.2 ([],[],[],[],0,0,0,0,0,0,0),0,0,())) (V.bx (λ(D:Int×Unit)=>A.pure (D.1,true)))
def Wt(Ay:Int->A Bool)(x:Option d'×Option Int):A Bool:=
 A.bind (Ay (Option.getD x.2 0)) λy=>A.pure y
def Wu(ju:Int×Int×Int->A Bool)(x:Int):A Bool:=
 A.bind (ju (x,0,99)) λy=>A.pure y
def Wv(HK:py×Int->A Int)(N9:Option d'×Option dQ->A (List bA->Prop))(x:Option dQ×Option (Option d')×Option Int×Option aZ):A (Int×Bool):=
 A.bind (N9 (Option.getD x.2.1 none,x.1)) λy=>A.bind (A.any y) λL=>A.bind (jL (λ(D:Int×aZ×Int×Unit) (y:a_×Int)=>letI a:=(D.2.1.2.2.2.2,y.2);A.bind (if decide (y.1.2.2.2.2.2=D.1)=true then A.ab (HK a).ck (A.pure (di.normal,IntKind.wrap .i64 (Add.add D.2.2.1 (A.val (HK a) 0)),())) else A.pure (di.normal,D.2.2.1,())) λp=>A.pure (p.1,D.1,D.2.1,p.2.1,())) L (Option.getD x.2.2.1 0,Option.getD x.2.2.2 ([],[],[],[],0,0,0,0,0,0,0),0,())) λp=>sq (A.pure (p.2.2.2.1,true)) (λid=>if id=0 then A.pure (p.2.2.2.1,true) else A.fail) A.fail p.1
def akE(akF:Option (Option dQ)×Option (Option d')->List bA->Prop)(x:Option d'×Option dQ):A (List bA->Prop):=
 A.pure (akF (some x.2,some x.1))
def Ww(ju:Int×Int×Int->A Bool)(N_:List a_×(Int×Int×Int×Int×Int×Int->A Bool)->A Bool)(akG:Int×Int×Int×Int×Int×Int×Int->A Bool)(NW:z1'×(Int->A Bool)->A Bool)(akH:a_×Option aZ->A Bool)(akI:Int->A Bool)(x:aZ):A Bool:=
 letI k:=Int.ofNat (List.length x.1);letI d:=decide (k > 3)||decide (Int.ofNat (List.length x.2.1) > 12)||decide (Int.ofNat (List.length x.2.2.1) > 12)||decide (Int.ofNat (List.length x.2.2.2.1) > 4);A.bind (cq (!d) (akG x.2.2.2.2) false) λy=>if (d||!y)=true then A.pure false else A.bind (A.loop (λ(D:z4'×Int×Int×aZ×Unit)=>letI l:=D.2.2.1;letI e:=List.getD D.1 (Int.toNat l) (0,0);if decide (l<D.2.1)=true then A.ab (0<=l/\l<Int.ofNat (List.length D.1)) (A.bind (ju (e.1,-30,e.2)) (λy=>if (!y||decide (e.2 > 30))=true then A.bind (A.bind (A.pure false) (λr=>A.pure (V.done r))) λr=>A.pure (V.done r) else A.pure (V.next (D.1,D.2.1,IntKind.wrap .i64 (Add.add l 1),D.2.2.2.1,())))) else A.bind (A.pure (V.next (D.2.2.2.1,()))) λr=>A.pure (V.done r)) (x.1,k,0,x,())) (V.bx (λ(D:aZ×Unit)=>A.bind (A.loop (λ(D:z4'×Int×Int×aZ×Unit)=>letI m:=D.2.2.2.1;letI f:=D.2.2.1;letI j:=decide (f > 0);letI i:=IntKind.wrap .i64 (f-1);letI b:=List.getD D.1 (Int.toNat f) (0,0);letI a:=!(A.val (ju (b.1,0,b.2)) false)||decide (b.2 > 9999);letI h:=(!a)=true;letI c:=(!a&&j)=true;letI g:=c->c/\True/\True;if decide (f<D.2.1)=true then A.ab (0<=f/\f<Int.ofNat (List.length D.1)) (A.ab (ju (b.1,0,b.2)).ck (A.ab ((!(!(A.val (ju (b.1,0,b.2)) false)))=true->(!(!(A.val (ju (b.1,0,b.2)) false)))=true/\True/\True) (A.ab ((!(!(A.val (ju (b.1,0,b.2)) false)))=true->((!(!(A.val (ju (b.1,0,b.2)) false)))=true/\True)/\True/\True) (A.ab (True/\((!(A.val (ju (b.1,0,b.2)) false))=false->(!(!(A.val (ju (b.1,0,b.2)) false)))=true)) (A.ab (h->(h/\True)/\True/\True) (A.ab (h->True/\True/\h) (A.ab g (A.ab g (A.ab (c->(c/\True)/\True/\True) (A.ab (c->(c/\c)/\(0<=i/\i<Int.ofNat (List.length m.2.2.2.1))/\True) (A.ab g (A.ab g (A.ab (c->(c/\c)/\True/\True) (A.ab (h->(h/\(j=true->c))/\True/\True) (A.ab (True/\(a=false->h)) (if (a||j&&decide (b.1<=(List.getD m.2.2.2.1 (Int.toNat i) (0,0)).2))=true then A.bind (A.bind (A.pure false) (λr=>A.pure (V.done r))) λr=>A.pure (V.done r) else A.pure (V.next (D.1,D.2.1,IntKind.wrap .i64 (Add.add f 1),m,())))))))))))))))))) else A.bind (A.pure (V.next (m,()))) λr=>A.pure (V.done r)) (D.1.2.2.2.1,Int.ofNat (List.length D.1.2.2.2.1),0,D.1,())) (V.bx (λ(D:aZ×Unit)=>A.bind (N_ (D.1.2.1,λx=>akH (x,some D.1))) λy=>A.bind (cq (!y) (NW (D.1.2.2.1,akI)) false) λb2=>A.pure (!y&&!b2)))))
def akJ(D1:(z1'->Prop)->A (z1'))(N':List (Int×a_)->A (z1'->Prop))(x:List a_):A (List a_×Bool):=
 A.bind (A.loop (λ(D:List a_×Int×Int×List (Int×a_)×Unit)=>letI e:=D.2.2;letI b:=List.getD D.1 (Int.toNat e.1) (0,0,0,0,0,0);letI c:=Option.map (λx=>x.2) (List.find? (λp=>decide (b.1=p.1)) e.2.1);letI a:=Option.getD c (0,0,0,0,0,0);if decide (e.1<D.2.1)=true then A.ab (0<=e.1/\e.1<Int.ofNat (List.length D.1)) (if (Option.isSome c&&!(decide (a.1=b.1)&&(decide (a.2.1=b.2.1)&&(decide (a.2.2.1=b.2.2.1)&&(decide (a.2.2.2.1=b.2.2.2.1)&&(decide (a.2.2.2.2.1=b.2.2.2.2.1)&&decide (a.2.2.2.2.2=b.2.2.2.2.2)))))))=true then A.bind (A.bind (A.pure ([],false)) (λr=>A.pure (V.done r))) λr=>A.pure (V.done r) else A.pure (V.next (D.1,D.2.1,IntKind.wrap .i64 (Add.add e.1 1),kW e.2.1 b.1 b,()))) else A.bind (A.pure (V.next (e.2.1,()))) λr=>A.pure (V.done r)) (x,Int.ofNat (List.length x),0,[],())) (V.bx (λ(D:List (Int×a_)×Unit)=>A.bind (A.bind (N' D.1) (λy=>A.bind (D1 y) λy=>A.loop (λ(D:z1'×Int×Int×List a_×List (Int×a_)×Unit)=>letI d:=D.2.2;if decide (d.1<D.2.1)=true then A.ab (0<=d.1/\d.1<Int.ofNat (List.length D.1)) (A.ab (bP (Add.add (List.length d.2.1) (Add.add 0 1))) (A.pure (V.next (D.1,D.2.1,IntKind.wrap .i64 (Add.add d.1 1),d.2.1++[Option.getD (Option.map (λx=>x.2) (List.find? (λp=>decide (List.getD D.1 (Int.toNat d.1) 0=p.1)) d.2.2.1)) (0,0,0,0,0,0)],d.2.2.1,())))) else A.bind (A.pure (V.next (d.2.1,()))) λr=>A.pure (V.done r)) (y,Int.ofNat (List.length y),0,[],D.1,()))) (V.bx (λ(D:List a_×Unit)=>A.pure (D.1,true)))))
def Wx(ga:Int×Int×Int->A Bool)(akK:Int×Int×Int×Int×Int×Int×Int->A Bool)(Wy:aZ×Int×Int×Int×Int×Int×Int->A Bool)(x:aZ):A Bool:=
 letI e:=decide (Int.ofNat (List.length x.1) > 3)||decide (Int.ofNat (List.length x.2.1) > 12)||decide (Int.ofNat (List.length x.2.2.1) > 12)||decide (Int.ofNat (List.length x.2.2.2.1) > 4);A.bind (cq (!e) (akK x.2.2.2.2) false) λy=>if (e||!y)=true then A.pure false else A.bind (A.loop (λ(D:Int×aZ×Unit)=>letI f:=D.1<Int.ofNat (List.length D.2.1.1);letI o:=0<=D.1/\f;letI b:=List.getD D.2.1.1 (Int.toNat D.1) (0,0);if decide f=true then A.ab o (A.ab o (A.ab (ga (b.1,-30,b.2)).ck (A.ab ((!(!(A.val (ga (b.1,-30,b.2)) false)))=true->(!(!(A.val (ga (b.1,-30,b.2)) false)))=true/\True/\True) (A.ab ((!(!(A.val (ga (b.1,-30,b.2)) false)))=true->((!(!(A.val (ga (b.1,-30,b.2)) false)))=true/\(!(!(A.val (ga (b.1,-30,b.2)) false)))=true)/\o/\True) (A.ab ((!(!(A.val (ga (b.1,-30,b.2)) false)))=true->(!(!(A.val (ga (b.1,-30,b.2)) false)))=true/\True/\True) (A.ab ((!(!(A.val (ga (b.1,-30,b.2)) false)))=true->(!(!(A.val (ga (b.1,-30,b.2)) false)))=true/\True/\True) (A.ab ((!(!(A.val (ga (b.1,-30,b.2)) false)))=true->((!(!(A.val (ga (b.1,-30,b.2)) false)))=true/\True)/\True/\True) (A.ab (True/\((!(A.val (ga (b.1,-30,b.2)) false))=false->(!(!(A.val (ga (b.1,-30,b.2)) false)))=true)) (if (!(A.val (ga (b.1,-30,b.2)) false)||decide (b.2 > 30))=true then A.bind (A.bind (A.pure false) (λr=>A.pure (V.done r))) λr=>A.pure (V.done r) else A.pure (V.next (IntKind.wrap .i64 (Add.add D.1 1),D.2.1,()))))))))))) else A.bind (A.pure (V.next (D.2.1,()))) λr=>A.pure (V.done r)) (0,x,())) (V.bx (λ(D:aZ×Unit)=>A.bind (A.loop (λ(D:Int×aZ×Unit)=>letI m:=D.1<Int.ofNat (List.length D.2.1.2.1);letI h:=(D.2.1,List.getD D.2.1.2.1 (Int.toNat D.1) (0,0,0,0,0,0));if decide m=true then A.ab (0<=D.1/\m) (A.ab (Wy h).ck (if (!(A.val (Wy h) false))=true then A.bind (A.bind (A.pure false) (λr=>A.pure (V.done r))) λr=>A.pure (V.done r) else A.pure (V.next (IntKind.wrap .i64 (Add.add D.1 1),D.2.1,())))) else A.bind (A.pure (V.next (D.2.1,()))) λr=>A.pure (V.done r)) (0,D.1,())) (V.bx (λ(D:aZ×Unit)=>A.bind (A.loop (λ(D:Int×aZ×Unit)=>letI l:=D.1<Int.ofNat (List.length D.2.1.2.2.1);if decide l=true then A.ab (0<=D.1/\l) (A.bind (ga (List.getD D.2.1.2.2.1 (Int.toNat D.1) 0,0,99)) (λy=>if (!y)=true then A.bind (A.bind (A.pure false) (λr=>A.pure (V.done r))) λr=>A.pure (V.done r) else A.pure (V.next (IntKind.wrap .i64 (Add.add D.1 1),D.2.1,())))) else A.bind (A.pure (V.next (D.2.1,()))) λr=>A.pure (V.done r)) (0,D.1,())) (V.bx (λ(D:aZ×Unit)=>A.bind (A.loop (λ(D:Int×aZ×Unit)=>letI p:=D.2.1.2.2.2.1;letI n:=decide (D.1 > 0);letI k:=IntKind.wrap .i64 (D.1-1);letI g:=Int.ofNat (List.length p);letI c:=List.getD p (Int.toNat D.1) (0,0);letI a:=!(A.val (ga (c.1,0,c.2)) false)||decide (c.2 > 9999);letI j:=(!a)=true;letI d:=(!a&&n)=true;letI i:=d->d/\True/\True;if decide (D.1<g)=true then A.ab (0<=D.1/\D.1<g) (A.ab (ga (c.1,0,c.2)).ck (A.ab ((!(!(A.val (ga (c.1,0,c.2)) false)))=true->(!(!(A.val (ga (c.1,0,c.2)) false)))=true/\True/\True) (A.ab ((!(!(A.val (ga (c.1,0,c.2)) false)))=true->((!(!(A.val (ga (c.1,0,c.2)) false)))=true/\True)/\True/\True) (A.ab (True/\((!(A.val (ga (c.1,0,c.2)) false))=false->(!(!(A.val (ga (c.1,0,c.2)) false)))=true)) (A.ab (j->(j/\True)/\True/\True) (A.ab (j->True/\True/\j) (A.ab i (A.ab i (A.ab (d->(d/\True)/\True/\True) (A.ab (d->(d/\d)/\(0<=k/\k<g)/\True) (A.ab i (A.ab i (A.ab (d->(d/\d)/\True/\True) (A.ab (j->(j/\(n=true->d))/\True/\True) (A.ab (True/\(a=false->j)) (if (a||n&&decide (c.1<=(List.getD p (Int.toNat k) (0,0)).2))=true then A.bind (A.bind (A.pure false) (λr=>A.pure (V.done r))) λr=>A.pure (V.done r) else A.pure (V.next (IntKind.wrap .i64 (Add.add D.1 1),D.2.1,())))))))))))))))))) else A.bind (A.pure (V.next ())) λr=>A.pure (V.done r)) (0,D.1,())) (V.bx (λ(D:Unit)=>A.pure true))))))))
def Wz(x:a_×Int×Int×Int×Int×Int×Int):A Bool:=
 letI a:=decide (x.1.1=x.2.1);A.pure (a&&!(a&&(decide (x.1.2.1=x.2.2.1)&&(decide (x.1.2.2.1=x.2.2.2.1)&&(decide (x.1.2.2.2.1=x.2.2.2.2.1)&&(decide (x.1.2.2.2.2.1=x.c_)&&decide (x.1.2.2.2.2.2=x.2.2.2.2.2.2)))))))
def WA(kh:Int×Int×Int->A Bool)(x:Int×Int×Int):A Bool:=
 A.bind (kh x) λy=>A.pure y
def akL(D3:Int->A Bool)(x:Option d'×Option Int):A Bool:=
 A.bind (D3 (Option.getD x.2 0)) λy=>A.pure y
def WB(x:aZ×Int×Int):A Int:=
 A.bind (A.loop (λ(D:Int×Int×Int×z4'×Int×Int×Unit)=>letI c:=D.2.2.2;letI b:=IntKind.wrap .i64 (D.2.1-1);letI a:=List.getD c.1 (Int.toNat D.c_) (0,0);if decide (D.c_<c.2.1)=true then A.ab (0<=D.c_/\D.c_<Int.ofNat (List.length c.1)) (A.pure (V.next (D.1,D.2.1,IntKind.wrap .i64 (D.2.2.1-(if IntKind.wrap .i64 (Add.add (IntKind.wrap .i64 ((if b<a.2 then b else a.2)-(if D.1 > a.1 then D.1 else a.1))) 1) > 0 then IntKind.wrap .i64 (Add.add (IntKind.wrap .i64 ((if b<a.2 then b else a.2)-(if D.1 > a.1 then D.1 else a.1))) 1) else 0)),c.1,c.2.1,IntKind.wrap .i64 (Add.add D.c_ 1),()))) else A.bind (A.pure (V.next (D.2.2.1,()))) λr=>A.pure (V.done r)) (x.2.1,x.2.2,IntKind.wrap .i64 (x.2.2-x.2.1),x.1.2.2.2.1,Int.ofNat (List.length x.1.2.2.2.1),0,())) (V.bx (λ(D:Int×Unit)=>A.pure D.1))
def WC(x:z4'):A (z4'):=
 A.bind (A.any (λb=>b=true->x=[])) λy=>if y=true then A.pure [] else A.ab (bP (Add.add 0 (List.length x))) (A.pure ([]++x))
def WD(hK:z1'×Int->A Bool)(x:a_×Option aZ):A Bool:=
 A.bind (hK ((Option.getD x.2 ([],[],[],[],0,0,0,0,0,0,0)).2.2.1,x.1.1)) λy=>A.pure y
def WE(N_:List a_×(Int×Int×Int×Int×Int×Int->A Bool)->A Bool)(akM:a_×Option Int->A Bool)(x:Option d'×Option Int):A Bool:=
 A.ab (Option.isSome x.1=true) (A.bind (N_ ((Option.getD x.1 (([],[],[],[],0,0,0,0,0,0,0),[],[])).2.1,λhy=>akM (hy,some (Option.getD x.2 0)))) (λy=>A.pure y))
def akN(Oa:List a_×(Int×Int×Int×Int×Int×Int->A Bool)->A Int)(x:List a_×(Int×Int×Int×Int×Int×Int->A Bool)):A Bool:=
 A.bind (Oa x) λy=>A.pure (decide (y>=0))
def akO(x:a_×Option Int):A Bool:=
 A.pure (decide (x.1.1=Option.getD x.2 0)&&decide (x.1.2.2.2.1=1))
def WG(N9:Option d'×Option dQ->A (List bA->Prop))(x:Option dQ×Option (Option d')×Option Int×Option (Int->A Int)):A (Int×Bool):=
 A.bind (N9 (Option.getD x.2.1 none,x.1)) λy=>A.bind (A.any y) λL=>A.bind (jL (λ(D:Int×(Int->A Int)×Int×Bool×Unit) (y:a_×Int)=>A.bind (if decide (y.1.1=D.1)=true then A.bind (D.2.1 y.2) λy=>A.pure (di.ret,y,true,()) else A.pure (di.normal,D.2.2.1,D.2.2.2.1,())) λp=>A.pure (p.1,D.1,D.2.1,p.2.1,p.2.2.1,())) L (Option.getD x.2.2.1 0,Option.getD x.2.2.2 λx=>{ ck:=False,bK:=λx=>False },0,false,())) λp=>sq (A.pure (0,false)) (λid=>if id=0 then A.pure (0,false) else A.fail) (A.pure (p.2.2.2.1,p.2.2.2.2.1)) p.1
def WH(ju:Int×Int×Int->A Bool)(x:Int×Int×Int×Int×Int×Int×Int):A Bool:=
 A.bind (A.loop (λ(D:Int×Int×py×z1'×Unit)=>letI a:=D.2;if decide (a.1<D.1)=true then A.ab (0<=a.1/\a.1<Int.ofNat (List.length a.2.2.1)) (A.bind (ju (List.getD a.2.2.1 (Int.toNat a.1) 0,0,100000)) (λy=>if (!y)=true then A.bind (A.bind (A.pure false) (λr=>A.pure (V.done r))) λr=>A.pure (V.done r) else A.pure (V.next (D.1,IntKind.wrap .i64 (Add.add a.1 1),a.2.1,a.2.2.1,())))) else A.bind (A.pure (V.next (a.2.1,()))) λr=>A.pure (V.done r)) (Int.ofNat (Add.add (Add.add (Add.add (Add.add 0 1) 1) 1) 1),0,x,[x.2.2.1,x.2.2.2.1,x.c_,x.2.2.2.2.2.2],())) (V.bx (λ(D:py×Unit)=>A.bind (ju (D.1.1,0,9999)) λy=>A.bind (cq y (ju (D.1.2.1,1,9999)) false) λb2=>A.bind (cq (y&&b2) (ju (D.1.2.2.2.2.1,1,9999)) false) λdE=>A.pure (y&&b2&&dE)))
def WI(akP:aZ×Int×Int×Int×Int×Int×Int->A Bool)(x:a_×Option aZ):A Bool:=
 A.bind (akP (Option.getD x.2 ([],[],[],[],0,0,0,0,0,0,0),x.1)) λy=>A.pure (!y)
def WJ(ju:Int×Int×Int->A Bool)(Ay:Int->A Bool)(x:aZ×Int×Int×Int×Int×Int×Int):A Bool:=
 letI c:=x.2.2.2.2;letI a:=decide (c.1=1)||decide (c.1=2)&&decide (c.2.2=0);A.bind (cq a (Ay x.2.1) false) λy=>A.bind (cq (a&&y) (Ay c.2.2) false) λb2=>A.bind (cq (a&&y&&b2) (ju (x.2.2.1,0,IntKind.wrap .i64 (Int.ofNat (List.length x.1.1)-1))) false) λdE=>letI b:=a&&y&&b2&&dE;A.bind (cq b (ju (x.2.2.2.1,0,9999)) false) λgA=>A.bind (cq (b&&gA) (ju (x.c_,0,9)) false) λlx=>A.pure (b&&gA&&lx)
def WK(Ay:Int->A Bool)(x:Int):A Bool:=
 A.bind (Ay x) λy=>A.pure (!y)
def akQ(akR:Option (List (Int×a_))->z1'->Prop)(x:List (Int×a_)):A (z1'->Prop):=
 A.pure (akR (some x))
def WL(ga:Int×Int×Int->A Bool)(x:Int×Int×Int×Int×Int×Int×Int):A Bool:=
 A.bind (ga (x.1,0,9999)) λy=>A.bind (cq y (ga (x.2.1,1,9999)) false) λb2=>A.bind (cq (y&&b2) (ga (x.2.2.2.2.1,1,9999)) false) λdE=>A.bind (cq (y&&b2&&dE) (ga (x.2.2.1,0,100000)) false) λgA=>letI a:=y&&b2&&dE&&gA;A.bind (cq a (ga (x.2.2.2.1,0,100000)) false) λlx=>A.bind (cq (a&&lx) (ga (x.c_,0,100000)) false) λvN=>A.bind (cq (a&&lx&&vN) (ga (x.2.2.2.2.2.2,0,100000)) false) λAu=>A.pure (a&&lx&&vN&&Au)
def WM(ga:Int×Int×Int->A Bool)(x:aZ×Int×Int×Int×Int×Int×Int):A Bool:=
 letI b:=x.2.2.2.2;A.bind (ga (x.2.1,0,99)) λy=>A.bind (cq (!(!y)) (ga (x.2.2.1,0,IntKind.wrap .i64 (Int.ofNat (List.length x.1.1)-1))) false) λb2=>A.bind (cq (!(!y||!b2)) (ga (x.2.2.2.1,0,9999)) false) λdE=>letI a:=!y||!b2||!dE;A.bind (cq (!a) (ga (x.c_,0,9)) false) λgA=>A.bind (cq (!(a||!gA)) (ga (b.2.2,0,99)) false) λlx=>if (a||!gA||!lx)=true then A.pure false else A.pure (decide (b.1=1)||decide (b.1=2)&&decide (b.2.2=0))
def WN(ayp:Int->A Int)(akS:Int->A Int)(x:Int):A Int:=
 A.bind (akS x) λy=>A.pure y
def akT(x:List a_×(Int×Int×Int×Int×Int×Int->A Bool)):A Int:=
 A.bind (A.loop (λ(D:List a_×(Int×Int×Int×Int×Int×Int->A Bool)×Int×Int×Unit)=>letI a:=D.2.2.2.1;if decide (a<D.2.2.1)=true then A.ab (0<=a/\a<Int.ofNat (List.length D.1)) (A.bind (D.2.1 (List.getD D.1 (Int.toNat a) (0,0,0,0,0,0))) (λy=>if y=true then A.bind (A.bind (A.pure a) (λr=>A.pure (V.done r))) λr=>A.pure (V.done r) else A.pure (V.next (D.1,D.2.1,D.2.2.1,IntKind.wrap .i64 (Add.add a 1),())))) else A.bind (A.pure (V.next ())) λr=>A.pure (V.done r)) (x.1,x.2,Int.ofNat (List.length x.1),0,())) (V.bx (λ(D:Unit)=>A.pure (-1)))
def D4(x:Int):A Int:=
 A.bind (if decide (x>=4294967296)=true then A.ab ((0:Int)<=32) (A.pure (V.next (ji .u64 x 32,32,()))) else A.pure (V.next (x,0,()))) (V.bx (λ(D:Int×Int×Unit)=>A.bind (if decide (D.1>=65536)=true then A.ab ((0:Int)<=16) (A.pure (V.next (ji .u64 D.1 16,IntKind.wrap .i64 (Add.add D.2.1 16),()))) else A.pure (V.next (D.1,D.2.1,()))) (V.bx (λ(D:Int×Int×Unit)=>A.bind (if decide (D.1>=256)=true then A.ab ((0:Int)<=8) (A.pure (V.next (ji .u64 D.1 8,IntKind.wrap .i64 (Add.add D.2.1 8),()))) else A.pure (V.next (D.1,D.2.1,()))) (V.bx (λ(D:Int×Int×Unit)=>letI a:=IntKind.wrap .u8 D.1;A.ab (0<=a/\a<Int.ofNat 256) (A.pure (IntKind.wrap .i64 (Add.add D.2.1 (IntKind.wrap .i64 (Int.ofNat (List.getD akh (Int.toNat a) 0).1.1.1)))))))))))
def WO(x:z1'):A (z1'):=
 A.bind (A.any (λb=>b=true->x=[])) λy=>if y=true then A.pure [] else A.ab (bP (Add.add 0 (List.length x))) (A.pure ([]++x))
def WQ(akU:Int×Int->A Int)(x:bA×a_×Int):A Int:=
 A.bind (akU (x.1.2,x.2.2)) λy=>A.pure y
def WR(WS:Int->A Bool)(x:Int×Int):A Int:=
 A.bind (WS x.1) λy=>A.bind (WS x.2) λb2=>if y=true then if b2=true then A.pure 0 else A.pure (-1) else if b2=true then A.pure 1 else if decide (x.1<x.2)=true then A.pure (-1) else if decide (x.1 > x.2)=true then A.pure 1 else A.pure 0
def WT(x:Int):A Bool:=
 A.pure (decide (x≠x))
def WU(x:(z1'->Prop)×Unit):A (z1'×Unit):=
 A.bind (A.any x.1) λL=>A.bind (jL (λ(D:z1'×Unit) (y:Int)=>A.bind (A.ab (bP (Add.add (List.length D.1) (Add.add 0 1))) (A.pure (di.normal,D.1++[y],()))) λp=>A.pure (p.1,p.2.1,())) L ([],())) λp=>sq (A.pure (p.2.1,())) (λid=>if id=0 then A.pure (p.2.1,()) else A.fail) A.fail p.1
def WV(akV:(z1'->Prop)×Unit->A (z1'×Unit))(x:(z1'->Prop)×Unit):A (z1'×Unit):=
 A.bind (akV (x.1,())) λy=>A.pure (y.1,())
def WW(Oa:List a_×(Int×Int×Int×Int×Int×Int->A Bool)->A Int)(x:(Int×Int×Int×Int×Int×Int->A Bool)×List a_×Unit):A ((Nat×Nat)×List a_×Unit):=
 A.bind (Oa (x.2.1,x.1)) λy=>if decide (y=-1)=true then A.pure ((0,List.length x.2.1),x.2.1,()) else A.bind (A.loop (λ(D:(Int×Int×Int×Int×Int×Int->A Bool)×Int×Int×List a_×Unit)=>letI g:=D.2.1;letI f:=D.2.2;letI e:=List.getD f.2.1 (Int.toNat f.1) (0,0,0,0,0,0);letI c:=Int.ofNat (List.length f.2.1);if decide (f.1<c)=true then A.bind (A.ab (0<=f.1/\f.1<c) (A.bind (D.1 e) (λy=>if (!y)=true then A.ab (0<=g/\g<c) (A.pure (V.next (D.1,IntKind.wrap .i64 (Add.add g 1),f.1,List.set f.2.1 (Int.toNat g) e,()))) else A.pure (V.next (D.1,g,f.1,f.2.1,()))))) (V.bx (λ(D:(Int×Int×Int×Int×Int×Int->A Bool)×Int×Int×List a_×Unit)=>A.pure (V.next (D.1,D.2.1,IntKind.wrap .i64 (Add.add D.2.2.1 1),D.2.2.2.1,())))) else A.bind (A.pure (V.next (g,f.2.1,()))) λr=>A.pure (V.done r)) (x.1,y,IntKind.wrap .i64 (Add.add y 1),x.2.1,())) (V.bx (λ(D:Int×List a_×Unit)=>letI d:=Int.toNat D.1;letI b:=Int.ofNat (List.length D.2.1);letI a:=List.take d D.2.1++List.replicate (Int.toNat b-d) (0,0,0,0,0,0)++List.drop (Add.add d (List.length (List.replicate (Int.toNat b-d) ((0,0,0,0,0,0):a_)))) D.2.1;A.ab (0<=D.1/\D.1<=b/\b<=b) (A.ab True (A.ab ((0:Int)<=0/\0<=D.1/\D.1<=Int.ofNat (List.length a)) (A.pure ((Int.toNat 0,d),a,()))))))
def HL(Aw:aZ×Int×Int->A Int)(x:Nat×Option dQ×Option d'×(Nat×(List bA->Prop)×List bA×Bool)×Unit):A ((Nat×(List bA->Prop)×List bA×Bool)×Unit):=
 A.ab (Option.isSome x.2.1=true) (A.loop (λ(D:Nat×Option d'×List (List bA)×Int×(Nat×(List bA->Prop)×List bA×Bool)×Unit)=>letI g:=D.2.2.2;if decide (g.1<10)=true then A.bind (A.ab (0<=g.1/\g.1<Int.ofNat 10) (A.loop (λ(D:Nat×Option d'×List bA×Int×List (List bA)×Int×(Nat×(List bA->Prop)×List bA×Bool)×Unit)=>letI h:=D.fs;letI f:=D.2.2;letI d:=Int.ofNat (List.length f.1);letI i:=0<=f.2.1/\f.2.1<d;letI c:=IntKind.wrap .i64 (Add.add f.2.1 1);letI b:=List.getD f.1 (Int.toNat f.2.1) ((0,0,0,0,0,0),0);letI a:=((Option.getD D.2.1 (([],[],[],[],0,0,0,0,0,0,0),[],[])).1,b.2,(List.getD f.1 (Int.toNat c) ((0,0,0,0,0,0),0)).2);if decide (c<d)=true then A.ab i (A.ab (Option.isSome D.2.1=true) (A.ab i (A.ab (0<=c/\c<d) (A.ab (Aw a).ck (A.bind (A.ab (D.1=h.1/\h.2.2.2=false/\(∃ (T:List bA),h.2.1 (h.2.2.1++(b.1,A.val (Aw a) 0)::T))) (A.any (λx=>True))) (λy=>letI e:=(h.1,h.2.1,h.2.2.1++[(b.1,A.val (Aw a) 0)],!y);if (!y)=true then A.bind (A.bind (A.bind (A.pure (e,())) (λr=>A.pure (V.done r))) (λr=>A.pure (V.done r))) λr=>A.pure (V.done r) else A.pure (V.next (D.1,D.2.1,f.1,IntKind.wrap .i64 (Add.add f.2.1 2),f.2.2.1,D.c_,e,())))))))) else A.bind (A.pure (V.next (D.1,D.2.1,f.2.2.1,D.c_,h,()))) λr=>A.pure (V.done r)) (D.1,D.2.1,List.getD D.2.2.1 (Int.toNat g.1) [],0,D.2.2.1,g.1,g.2.1,()))) (V.bx (λ(D:Nat×Option d'×List (List bA)×Int×(Nat×(List bA->Prop)×List bA×Bool)×Unit)=>A.pure (V.next (D.1,D.2.1,D.2.2.1,IntKind.wrap .i64 (Add.add D.2.2.2.1 1),D.2.2.2.2.1,())))) else A.bind (A.pure (g.2.1,())) λr=>A.pure (V.done r)) (x.1,x.2.2.1,(Option.getD x.2.1 ([],[[],[],[],[],[],[],[],[],[],[]])).2,0,x.2.2.2.1,()))
def WX(x:Int×Int×(bA×a_×Int->A Int)×List bA×Unit):A (List bA×Unit):=
 A.loop (λ(D:Int×Int×(bA×a_×Int->A Int)×Int×List bA×Unit)=>letI i:=D.2.2.2;if decide (i.1<D.2.1)=true then A.bind (A.loop (λ(D:Int×Int×(bA×a_×Int->A Int)×Int×Int×List bA×Unit)=>letI k:=D.2.2;letI d:=Int.ofNat (List.length D.c_);letI c:=k.2.2.1;letI j:=0<=c/\c<d;letI g:=decide (c > D.1);letI f:=List.getD D.c_ (Int.toNat c) ((0,0,0,0,0,0),0);letI b:=IntKind.wrap .i64 (c-1);letI e:=List.getD D.c_ (Int.toNat b) ((0,0,0,0,0,0),0);letI h:=List.set D.c_ (Int.toNat c) e;letI a:=g=true;letI l:=a->a/\True/\True;A.ab (a->(a/\a)/\j/\True) (A.ab l (A.ab (a->(a/\True)/\True/\True) (A.ab (a->(a/\a)/\(0<=b/\b<d)/\True) (A.ab l (A.ab (a->a/\a/\a/\True) (A.bind (cq g (k.1 (f,e)) 0) (λy=>if (g&&decide (y<0))=true then A.ab (0<=b/\b<d) (A.ab j (A.ab j (A.ab (0<=b/\b<Int.ofNat (List.length h)) (A.pure (V.next (D.1,D.2.1,k.1,k.2.1,b,List.set h (Int.toNat b) f,())))))) else A.bind (A.pure (V.next (D.1,D.2.1,k.1,k.2.1,D.c_,()))) λr=>A.pure (V.done r))))))))) (D.1,D.2.1,D.2.2.1,i.1,i.1,i.2.1,())) (V.bx (λ(D:Int×Int×(bA×a_×Int->A Int)×Int×List bA×Unit)=>A.pure (V.next (D.1,D.2.1,D.2.2.1,IntKind.wrap .i64 (Add.add D.2.2.2.1 1),D.2.2.2.2.1,())))) else A.bind (A.pure (i.2.1,())) λr=>A.pure (V.done r)) (x.1,x.2.1,x.2.2.1,IntKind.wrap .i64 (Add.add x.1 1),x.2.2.2.1,())
def Ob(x:Nat×z4'×(Nat×(z1'->Prop)×z1'×Bool)×Unit):A ((Nat×(z1'->Prop)×z1'×Bool)×Unit):=
 A.bind (A.pure ()) λy=>A.loop (λ(D:Nat×(Nat×(z1'->Prop)×z1'×Bool)×(Option (Int×Int)×z4')×Unit)=>letI c:=D.2.1;letI b:=D.2.2.1;A.bind (Gm b.2) λy=>if Option.isSome y=true then A.bind (A.ab (Option.isSome (nS b.1 b.2 y)=true) (A.pure ())) λb2=>A.bind (A.ab (D.1=c.1/\c.2.2.2=false/\(∃ (T:z1'),c.2.1 (c.2.2.1++Option.getD (Option.map (λx=>x.1) (nS b.1 b.2 y)) 0::T))) (A.any (λx=>True))) λdE=>letI a:=(c.1,c.2.1,c.2.2.1++[Option.getD (Option.map (λx=>x.1) (nS b.1 b.2 y)) 0],!dE);if (!dE)=true then A.bind (A.pure (a,())) λr=>A.pure (V.done r) else A.pure (V.next (D.1,a,(nS b.1 b.2 y,CQ b.2 y),())) else A.bind (A.pure (c,())) λr=>A.pure (V.done r)) (x.1,x.2.2.1,(none,x.2.1),())
def Oc(x:Nat×List (Int×a_)×(Nat×(z1'->Prop)×z1'×Bool)×Unit):A ((Nat×(z1'->Prop)×z1'×Bool)×Unit):=
 A.bind (A.pure ()) λy=>A.loop (λ(D:Nat×(Nat×(z1'->Prop)×z1'×Bool)×(Option py×List (Int×a_))×Unit)=>letI c:=D.2.1;letI b:=D.2.2.1;A.bind (Gm b.2) λy=>if Option.isSome y=true then A.bind (A.ab (Option.isSome (nS b.1 b.2 y)=true) (A.pure ())) λb2=>A.bind (A.ab (D.1=c.1/\c.2.2.2=false/\(∃ (T:z1'),c.2.1 (c.2.2.1++Option.getD (Option.map (λx=>x.1) (nS b.1 b.2 y)) 0::T))) (A.any (λx=>True))) λdE=>letI a:=(c.1,c.2.1,c.2.2.1++[Option.getD (Option.map (λx=>x.1) (nS b.1 b.2 y)) 0],!dE);if (!dE)=true then A.bind (A.pure (a,())) λr=>A.pure (V.done r) else A.pure (V.next (D.1,a,(nS b.1 b.2 y,CQ b.2 y),())) else A.bind (A.pure (c,())) λr=>A.pure (V.done r)) (x.1,x.2.2.1,(none,x.2.1),())
def akW(D1:(z1'->Prop)->A (z1'))(N':List (Int×a_)->A (z1'->Prop))(x:List a_×Unit):A (Bool×List a_×Unit):=
 A.bind (A.loop (λ(D:List a_×Int×Int×List (Int×a_)×Unit)=>letI e:=D.2.2;letI b:=List.getD D.1 (Int.toNat e.1) (0,0,0,0,0,0);letI c:=Option.map (λx=>x.2) (List.find? (λp=>decide (b.1=p.1)) e.2.1);letI a:=Option.getD c (0,0,0,0,0,0);if decide (e.1<D.2.1)=true then A.ab (0<=e.1/\e.1<Int.ofNat (List.length D.1)) (if (Option.isSome c&&!(decide (a.1=b.1)&&(decide (a.2.1=b.2.1)&&(decide (a.2.2.1=b.2.2.1)&&(decide (a.2.2.2.1=b.2.2.2.1)&&(decide (a.2.2.2.2.1=b.2.2.2.2.1)&&decide (a.2.2.2.2.2=b.2.2.2.2.2)))))))=true then A.bind (A.bind (A.pure (false,[],())) (λr=>A.pure (V.done r))) λr=>A.pure (V.done r) else A.pure (V.next (D.1,D.2.1,IntKind.wrap .i64 (Add.add e.1 1),kW e.2.1 b.1 b,()))) else A.bind (A.pure (V.next (e.2.1,()))) λr=>A.pure (V.done r)) (x.1,Int.ofNat (List.length x.1),0,[],())) (V.bx (λ(D:List (Int×a_)×Unit)=>A.bind (A.bind (N' D.1) (λy=>A.bind (D1 y) λy=>A.loop (λ(D:z1'×Int×Int×List a_×List (Int×a_)×Unit)=>letI d:=D.2.2;if decide (d.1<D.2.1)=true then A.ab (0<=d.1/\d.1<Int.ofNat (List.length D.1)) (A.ab (bP (Add.add (List.length d.2.1) (Add.add 0 1))) (A.pure (V.next (D.1,D.2.1,IntKind.wrap .i64 (Add.add d.1 1),d.2.1++[Option.getD (Option.map (λx=>x.2) (List.find? (λp=>decide (List.getD D.1 (Int.toNat d.1) 0=p.1)) d.2.2.1)) (0,0,0,0,0,0)],d.2.2.1,())))) else A.bind (A.pure (V.next (d.2.1,()))) λr=>A.pure (V.done r)) (y,Int.ofNat (List.length y),0,[],D.1,()))) (V.bx (λ(D:List a_×Unit)=>A.pure (true,D.1,())))))
abbrev ly:Type:=List bA×List bA×List bA×List bA×List bA×List bA×List bA×List bA×List bA×List bA×hn
def mC:Nat->ly->List bA
 | 0,r=>r.1
 | 1,r=>r.2.1
 | 2,r=>r.2.2.1
 | 3,r=>r.2.2.2.1
 | 4,r=>r.2.2.2.2.1
 | 5,r=>r.2.2.2.2.2.1
 | 6,r=>r.2.2.2.2.2.2.1
 | 7,r=>r.2.2.2.2.2.2.2.1
 | 8,r=>r.2.2.2.2.2.2.2.2.1
 | 9,r=>r.2.2.2.2.2.2.2.2.2.1
 | _,_=>[]
def HM:Nat->List bA->ly->ly
 | 0,v,r=>(v,r.2)
 | 1,v,r=>(r.1,v,r.2.2)
 | 2,v,r=>(r.1,r.2.1,v,r.2.2.2)
 | 3,v,r=>(r.1,r.2.1,r.2.2.1,v,r.2.2.2.2)
 | 4,v,r=>(r.1,r.2.1,r.2.2.1,r.2.2.2.1,v,r.2.2.2.2.2)
 | 5,v,r=>(r.1,r.2.1,r.2.2.1,r.2.2.2.1,r.2.2.2.2.1,v,r.2.2.2.2.2.2)
 | 6,v,r=>(r.1,r.2.1,r.2.2.1,r.2.2.2.1,r.2.2.2.2.1,r.2.2.2.2.2.1,v,r.2.2.2.2.2.2.2)
 | 7,v,r=>(r.1,r.2.1,r.2.2.1,r.2.2.2.1,r.2.2.2.2.1,r.2.2.2.2.2.1,r.2.2.2.2.2.2.1,v,r.2.2.2.2.2.2.2.2)
 | 8,v,r=>(r.1,r.2.1,r.2.2.1,r.2.2.2.1,r.2.2.2.2.1,r.2.2.2.2.2.1,r.2.2.2.2.2.2.1,r.2.2.2.2.2.2.2.1,v,r.2.2.2.2.2.2.2.2.2)
 | 9,v,r=>(r.1,r.2.1,r.2.2.1,r.2.2.2.1,r.2.2.2.2.1,r.2.2.2.2.2.1,r.2.2.2.2.2.2.1,r.2.2.2.2.2.2.2.1,r.2.2.2.2.2.2.2.2.1,v,r.2.2.2.2.2.2.2.2.2.2)
 | _,_,r=>r
abbrev WY(r:ly):hn:=r.2.2.2.2.2.2.2.2.2.2
def Od{X:Type}(l:List bA)(x:bA)(i k:Int)(aL B:A X):A X:=
 letI z:=decide (i > 0);letI y:=IntKind.wrap .i64 (i-1);letI n:=decide (x.1.2.2.2.1≠k);letI m:=(!n)=true;letI b:=(!n&&z)=true;letI c:=b->b/\True/\True;A.ab (m->(m/\True)/\True/\True) (A.ab (m->True/\True/\m) (A.ab c (A.ab (b->(b/\True)/\True/\True) (A.ab (b->(b/\b)/\(0<=y/\y<Int.ofNat (List.length l))/\True) (A.ab c (A.ab c (A.ab (b->(b/\b)/\True/\True) (A.ab (m->(m/\(z=true->b))/\True/\True) (A.ab (True/\(n=false->m)) (if (n||z&&decide (x.2=(List.getD l (Int.toNat y) ((0,0,0,0,0,0),0)).2))=true then aL else B))))))))))
def HN(k:Nat)(D:Int×Int×Int×z1'×ly):A (V (Int×Int×Int×z1'×ly) (V (Int×z1'×ly) (V (z1'×ly) (Option dQ×Bool×hn)))):=
 letI i:=D.2.2.1;letI l:=mC k D.2.2.2.2;letI x:=List.getD l (Int.toNat i) ((0,0,0,0,0,0),0);if decide (i<D.2.1)=true then A.ab (0<=i/\i<Int.ofNat (List.length l)) (A.bind (A.ab ((2:Int)≠0) (if decide (Int.tmod i (2:Int)=1)=true then A.pure (V.next (i,2,D.1,D.2.1,i,x,D.2.2.2)) else A.pure (V.next (i,1,D.1,D.2.1,i,x,D.2.2.2)))) (V.bx (λ(bm:Int×Int×Int×Int×Int×bA×z1'×ly)=>letI r:=bm.2.2.2.2.2.2.2;Od (mC k r) bm.2.2.2.2.2.1 bm.1 bm.2.1 (A.bind (A.bind (A.bind (A.pure (none,false,WY r)) (λr=>A.pure (V.done r))) (λr=>A.pure (V.done r))) λr=>A.pure (V.done r)) (A.pure (V.next (bm.2.2.1,bm.2.2.2.1,IntKind.wrap .i64 (Add.add bm.2.2.2.2.1 1),bm.2.2.2.2.2.2)))))) else A.bind (A.pure (V.next (D.1,D.2.2.2))) λr=>A.pure (V.done r)
def D5(WZ:(bA×a_×Int->A Int)×List bA×Unit->A (List bA×Unit))(W0:bA×a_×Int->A Int):Nat->Nat->z1'×ly->A (V (z1'×ly) (Option dQ×Bool×hn))
 | 0,_,s=>A.pure (.next s)
 | n+1,k,s=>A.bind (A.ab (0<=Int.ofNat k/\Int.ofNat k<Int.ofNat 10) (A.bind (WZ (W0,mC k s.2,())) (λy=>A.loop (HN k) (Int.ofNat k,Int.ofNat (List.length y.1),0,s.1,HM k y.1 s.2)))) (V.bx (λ(bm:Int×z1'×ly)=>A.ab (IntKind.wrap .i64 (Add.add bm.1 1)=Int.ofNat (k+1)) (D5 WZ W0 n (k+1) bm.2)))
def HO{X:Type}(f:Nat->A X)(v:Int):Nat->A X
 | 0=>f 0
 | n+1=>if v=Int.ofNat (Add.add n 1) then f (n+1) else HO f v n
def W1{X:Type}(D:z1'×List a_×Int×Int×z1'×ly)(u:Nat):A (V (z1'×List a_×Int×Int×z1'×ly) X):=
 letI a:=List.getD D.2.1 (Int.toNat D.2.2.2.1) (0,0,0,0,0,0);letI r:=D.2.2.2.2.2;letI p:=0<=Int.ofNat u/\Int.ofNat u<Int.ofNat 10;A.ab True (A.ab p (A.ab (0<=a.2.1/\a.2.1<Int.ofNat (List.length D.1)) (A.ab (bP (Add.add (List.length (mC u r)) (Add.add 0 1))) (A.ab True (A.ab p (A.pure (V.next (D.1,D.2.1,D.2.2.1,D.2.2.2.1,D.2.2.2.2.1,HM u (mC u r++[((a.1,a.2.1,a.2.2.1,a.2.2.2.1,Int.ofNat u,a.2.2.2.2.2),IntKind.wrap .i64 (Add.add a.2.2.1 (List.getD D.1 (Int.toNat a.2.1) 0)))]) r))))))))
def W2(akX:z1'->A (z1'))(akY:(bA×a_×Int->A Int)×List bA×Unit->A (List bA×Unit))(akZ:bA×a_×Int->A Int)(x:z1'×hn):A (Option dQ×Bool×hn):=
 A.bind (A.bind (akX x.1) (λy=>A.pure (V.next (x.1,y,x.2.1,x.2.2.1,x.2.2.2.1,x.2.2.2.2.1,x.c_,x.fs,x.gO,x.iq,x.jQ,x.kX,x.hM,x.nd,x.pz,[],[],[],[],[],[],[],[],[],[],())))) (V.bx (λ(D:z1'×z1'×z4'×List a_×z1'×z4'×Int×Int×Int×Int×Int×Int×Int×List a_×List (Option dQ)×List bA×List bA×List bA×List bA×List bA×List bA×List bA×List bA×List bA×List bA×Unit)=>A.bind (A.ab True (A.loop (λ(D:z1'×List a_×Int×Int×z1'×ly)=>letI a:=List.getD D.2.1 (Int.toNat D.2.2.2.1) (0,0,0,0,0,0);letI u:=a.2.2.2.2.1;if decide (D.2.2.2.1<D.2.2.1)=true then A.bind (A.ab (0<=D.2.2.2.1/\D.2.2.2.1<Int.ofNat (List.length D.2.1)) (A.ab (0<=u/\u<Int.ofNat 10) (HO (W1 D) u 9))) (V.bx (λ(D:z1'×List a_×Int×Int×z1'×ly)=>A.pure (V.next (D.1,D.2.1,D.2.2.1,IntKind.wrap .i64 (Add.add D.2.2.2.1 1),D.2.2.2.2)))) else A.bind (A.pure (V.next D.2.2.2.2)) λr=>A.pure (V.done r)) (D.1,D.pz,Int.ofNat (List.length D.pz),0,D.2.1,D.x7,D.DV,D.DW,D.DX,D.DY,D.N2,D.N3,D.N4,D.ry,D.DZ,D.2.2.1,D.2.2.2.1,D.2.2.2.2.1,D.c_,D.fs,D.gO,D.iq,D.jQ,D.kX,D.hM,D.nd,D.pz,D.sK,()))) (V.bx (λ(D:z1'×ly)=>A.bind (A.ab True (A.ab (0=Int.ofNat 0) (D5 akY akZ 10 0 D))) (V.bx (λ(D:z1'×ly)=>A.pure (some (D.1,[mC 0 D.2,mC 1 D.2,mC 2 D.2,mC 3 D.2,mC 4 D.2,mC 5 D.2,mC 6 D.2,mC 7 D.2,mC 8 D.2,mC 9 D.2]),true,WY D.2)))))))
def W3(ak0:Int×Int×(bA×a_×Int->A Int)×List bA×Unit->A (List bA×Unit))(x:Int×Int×Int×(bA×a_×Int->A Int)×List bA×Unit):A (List bA×Unit):=
 A.loop (λ(D:Int×Int×Int×(bA×a_×Int->A Int)×Bool×Bool×List bA×Unit)=>if decide (IntKind.wrap .i64 (D.2.1-D.1)<=12)=true then A.bind (ak0 (D.1,D.2.1,D.2.2.2.1,D.fs,())) λy=>A.bind (A.pure (y.1,())) λr=>A.pure (V.done r) else A.fail) (x.1,x.2.1,x.2.2.1,x.2.2.2.1,true,true,x.2.2.2.2.1,())
def W4(N7:z1'×hn->A (hn))(ak1:z1'×hn->A (Option dQ×Bool×hn))(x:z1'×hn):A (hn):=
 letI d:=Int.ofNat (List.length x.2.1);letI a:=Int.ofNat (List.length x.1);A.ab True (if decide (a=d)=true then A.bind (A.bind (ak1 (x.1,x.2.1,x.2.2.1,x.2.2.2.1,x.2.2.2.2.1,x.c_,x.fs,x.gO,x.iq,x.jQ,x.kX,x.hM,x.nd,x.pz,())) (λy=>if y.2.1=true then A.ab True (A.ab (bP (Add.add (List.length y.sK) (Add.add 0 1))) (A.ab True (A.pure (V.next (y.2.2.1,y.2.2.2.1,y.2.2.2.2.1,y.c_,y.fs,y.gO,y.iq,y.jQ,y.kX,y.hM,y.nd,y.pz,y.sK++[y.1],()))))) else A.pure (V.next (y.2.2.1,y.2.2.2.1,y.2.2.2.2.1,y.c_,y.fs,y.gO,y.iq,y.jQ,y.kX,y.hM,y.nd,y.pz,y.sK,())))) (V.bx (λ(D:hn)=>A.pure (D.1,D.2.1,D.2.2.1,D.2.2.2.1,D.2.2.2.2.1,D.c_,D.fs,D.gO,D.iq,D.jQ,D.kX,D.hM,D.nd,()))) else A.ab True (A.ab (0<=a/\a<d) (A.loop (λ(D:z1'×Int×Int×hn)=>letI c:=D.2.2;letI b:=D.2.1;letI e:=List.take (Int.toNat b) D.1;A.ab True (A.ab (0<=b/\b<Int.ofNat (List.length c.2.1)) (if decide (c.1<=(List.getD c.2.1 (Int.toNat b) (0,0)).2)=true then A.ab ((0:Int)<=0/\0<=b/\b=b/\b<=Int.ofNat (List.length D.1)) (A.ab (0<Add.add 0 1/\bP (Add.add (List.length e) (Add.add 0 1))) (A.bind (N7 (e++[c.1],c.2.1,c.2.2.1,D.c_,D.fs,D.gO,D.iq,D.jQ,D.kX,D.hM,D.nd,D.pz,D.sK,D.x7,())) (λy=>A.pure (V.next (D.1,b,IntKind.wrap .i64 (Add.add c.1 1),y.1,y.2.1,y.2.2.1,y.2.2.2.1,y.2.2.2.2.1,y.c_,y.fs,y.gO,y.iq,y.jQ,y.kX,y.hM,y.nd,()))))) else A.bind (A.pure (c.2.1,c.2.2.1,D.c_,D.fs,D.gO,D.iq,D.jQ,D.kX,D.hM,D.nd,D.pz,D.sK,D.x7,())) λr=>A.pure (V.done r)))) (x.1,a,(List.getD x.2.1 (Int.toNat a) (0,0)).1,x.2.1,x.2.2.1,x.2.2.2.1,x.2.2.2.2.1,x.c_,x.fs,x.gO,x.iq,x.jQ,x.kX,x.hM,x.nd,x.pz,()))))
def W5(ak2:Int->A Int)(ak3:Int×Int×Int×(bA×a_×Int->A Int)×List bA×Unit->A (List bA×Unit))(x:(bA×a_×Int->A Int)×List bA×Unit):A (List bA×Unit):=
 letI a:=Int.ofNat (List.length x.2.1);A.bind (ak2 (IntKind.wrap .u64 a)) λy=>A.bind (ak3 (0,a,y,x.1,x.2.1,())) λy=>A.pure (y.1,())
end Go.Fer.H
namespace Go.Fer.H
open A (V)
abbrev bu:ad:=.int .i64
abbrev dd:ad:=.bool
abbrev fE:ad:=.slice bu
abbrev mD:ad:=.st (.ay bu bu)
abbrev Oe:ad:=.st (.ay bu (.ay bu (.ay bu (.ay bu (.ay bu (.ay bu bu))))))
abbrev iN:ad:=.st (.ay (.slice mD) (.ay (.slice ho) (.ay fE (.ay (.slice mD) Oe))))
abbrev HP:ad:=.st (.ay ho bu)
abbrev x8:ad:=.st (.ay fE (.array 10 (.slice HP)))
abbrev sM:ad:=.st (.ay iN (.ay (.slice ho) (.slice (.bH x8))))
attribute [simp] qt Vk vJ A.du A.Fj A.Rf A.gz A.fB A.mA A.jc A.kE A.bY A.pv ch hX Nj V.hl
section
variable {ak:Type}
def x9(d:ak)(x:List ak×(ak->A Bool)):A Int:=
 A.bind (A.loop (λ(D:List ak×(ak->A Bool)×Int×Int×Unit)=>if decide (D.2.2.2.1<D.2.2.1)=true then A.ab (0<=D.2.2.2.1/\
 D.2.2.2.1<Int.ofNat (List.length D.1)) (A.bind (D.2.1 (List.getD D.1 (Int.toNat D.2.2.2.1) d)) λy=>if y=true then A.bind (A.bind (A.pure
 D.2.2.2.1) λr=>A.pure (V.done r)) λr=>A.pure (V.done r) else A.pure (V.next (D.1,D.2.1,D.2.2.1,IntKind.wrap .i64 (Add.add
 D.2.2.2.1 1),()))) else A.bind (A.pure (V.next ())) λr=>A.pure (V.done r)) (x.1,x.2,Int.ofNat (List.length x.1),0,())) (V.bx λ(D
 : Unit)=>A.pure (-1))
def D6(c:List ak×(ak->A Bool)->A Int)(x:List ak×(ak->A Bool)):A Bool:=A.bind (c x) λy=>A.pure (decide (y>=0))
def hN(p:ak->Bool):List ak->Int->Int
 | [],_=>-1
 | x::l,i=>if p x=true then i else hN p l (i+1)
theorem Az(p:ak->Bool):∀ (l:List ak) (i:Int),0<=i->(decide (hN p l i>=0))=l.any p
 | [],i,_=>by rfl
 | x::l,i,h=>by
  simp only[hN,List.any_cons];by_cases ah:p x=true
  ·grind
  ·have:=Az p l (i+1) (by omega);grind
theorem AA(p:ak->Bool):∀ (l:List ak) (i:Int),eY (λx (i:Int)=>if p x=true then (.done (.done i):V Int (V Unit Int)) else .next (i+1)) (λ_=>.next ()) l i=if l.any p=true then .done (hN p l i) else .next ()
 | [],i=>by rfl
 | x::l,i=>by
  simp only[eY,List.any_cons,hN];by_cases ah:p x=true
  ·grind
  ·have:=AA p l (i+1);grind
theorem D7{p:ak->Bool}:∀ (l:List ak) (i:Int),¬l.any p=true->hN p l i=-1
 | [],_,_=>rfl
 | x::l,i,aA=>by
  simp only[List.any_cons,Bool.or_eq_true,not_or]at aA;simp only[hN,aA.1,Bool.false_eq_true,if_false];exact D7 l _ aA.2
theorem Of(d:ak)(l:List ak)(f:ak->A Bool)(h:l.length<2 ^ 63)(ao:∀ y∈l,∃ b,f y=A.pure b):x9 d (l,f)=A.pure (hN (λy=>(f y).val false) l 0):=by
 unfold x9;rw[A.f_ l (λi (b:Int)=>(l,f,(l.length:Int),b,())) (λy (i:Int)=>if (f y).val false=true then (.done (.done i):V Int (V Unit Int)) else .next (i+1)) (λ_=>.next ()) (λi b=>b=(i:Int)) 0 ?_ ?_ ?_ ?_]
 ·rw[AA (λy=>(f y).val false)];by_cases ba:(l.any λy=>(f y).val false)=true
  ·simp[ba]
  ·have:hN (λy=>(f y).val false) l 0=-1:=by
    have:∀ (l:List ak) (i:Int),¬(l.any λy=>(f y).val false)=true->hN (λy=>(f y).val false) l i=-1:=by
     intro l;induction l with
     | nil=>intro i _;rfl
     | cons x l aJ=>
      intro i aA;simp only[List.any_cons,Bool.or_eq_true,not_or]at aA;simp only[hN,aA.1,Bool.false_eq_true,if_false];grind
    grind
   simp[ba,this]
 ·rfl
 ·rfl
 ·intro i G b W;subst W;have hw:=bz (n:=(i:Int)+1) (by omega) (by omega);refine⟨?_,λbe db=>?_⟩
  ·obtain⟨b,W⟩:=ao _ (List.getElem_mem G);simp only[bV,cU G,if_true,df G,cM G,A.bp,W,A.fB,A.aF,ch,hw];split<;>rfl
  grind
 simp
end
abbrev kZ(e:ad):aK:=⟨.ay (.slice e) (.fn e .bool),bu,λx=>x.1.length<2 ^ 63/\∀ y∈x.1,∃ b,x.2 y=A.pure b,λx=>hN (λy=>(x.2 y).val false) x.1 0⟩
theorem sN(e:ad)(x):A.le (x9 e.de x) ((kZ e).sh x):=A.bq λh=>Of e.de x.1 x.2 h.1 h.2
abbrev jd(e:ad):aK:=⟨.ay (.slice e) (.fn e .bool),dd,λx=>x.1.length<2 ^ 63/\∀ y∈x.1,∃ b,x.2 y=A.pure b,λx=>x.1.any λy=>(x.2 y).val false⟩
theorem sO(e:ad)(x):A.le (D6 (kZ e).sh x) ((jd e).sh x):=A.bq λh=>by
 unfold D6;simp only[aK.sh,kZ,A.du];rw[A.bt (by exact h)];exact congrArg A.pure (Az (λy=>(x.2 y).val false) x.1 0 (by omega))
abbrev lz(s:a_):Int:=s.1
abbrev pA(s:a_):Int:=s.2.1
abbrev x_(s:a_):Int:=s.2.2.1
abbrev eo(s:a_):Int:=s.2.2.2.1
abbrev um(s:a_):Int:=s.2.2.2.2.1
abbrev iO(s:a_):Int:=s.2.2.2.2.2
def ix(c:aZ):Prop:=c.1.length<2 ^ 63/\c.2.1.length<2 ^ 63/\c.2.2.1.length<2 ^ 63/\c.2.2.2.1.length<2 ^ 63
def b3(n aY G:Int):Bool:=decide (aY<=n)&&decide (n<=G)
theorem oR{n aY G:Int}:b3 n aY G=true<->aY<=n/\n<=G:=by simp[b3]
def pB(t:py):Bool:=b3 t.1 0 9999&&b3 t.2.1 1 9999&&b3 t.2.2.2.2.1 1 9999&&b3 t.2.2.1 0 100000&&b3 t.2.2.2.1 0 100000&&b3 t.2.2.2.2.2.1 0 100000&&b3 t.2.2.2.2.2.2 0 100000
def lA(n:Nat)(s:a_):Bool:=b3 (lz s) 0 99&&b3 (pA s) 0 ((n:Int) - 1)&&b3 (x_ s) 0 9999&&b3 (um s) 0 9&&b3 (iO s) 0 99&&(decide (eo s=1)||decide (eo s=2)&&decide (iO s=0))
abbrev cf:aK:=⟨.ay bu (.ay bu bu),dd,λ_=>True,λx=>b3 x.1 x.2.1 x.2.2⟩
theorem ak4(x):A.le (WA cf.sh x) (cf.sh x):=A.bq λ_=>by
 unfold WA;simp[aK.sh,cf]
theorem ak5(x):A.le (akx x) (cf.sh x):=A.bq λ_=>rfl
abbrev x':aK:=⟨bu,dd,λ_=>True,λx=>b3 x 0 9999⟩
theorem ak6(x):A.le (Wk cf.sh x) (x'.sh x):=A.bq λ_=>by
 unfold Wk;simp[aK.sh,cf]
abbrev vP:aK:=⟨bu,dd,λ_=>True,λx=>b3 x 0 99⟩
theorem ak7(x):A.le (Wu cf.sh x) (vP.sh x):=A.bq λ_=>by
 unfold Wu;simp[aK.sh,cf]
abbrev vQ:aK:=⟨Oe,dd,λ_=>True,λx=>pB x⟩
theorem ak8(x):A.le (WL cf.sh x) (vQ.sh x):=A.bq λ_=>by
 unfold WL;show _=A.pure (pB x);unfold pB;simp only[aK.sh,cf,A.nF,A.aF,A.kE];simp
theorem ak9(x):A.le (WH cf.sh x) (vQ.sh x):=A.bq λ_=>by
 unfold WH;rw[A.dt [x.2.2.1,x.2.2.2.1,x.2.2.2.2.2.1,x.2.2.2.2.2.2] (λi (_:Unit)=>(4,(i:Int),x,[x.2.2.1,x.2.2.2.1,x.2.2.2.2.2.1,x.2.2.2.2.2.2],())) (λy b=>if (!b3 y 0 100000)=true then .done (.done false) else .next b) (λ_=>.next (x,())) () ?_ ?_ ?_]
 ·rw[kg (q:=λy=>b3 y 0 100000) _ _ (λ_=>rfl)];show _=A.pure (pB x);unfold pB;simp only[List.all_cons,List.all_nil,Bool.and_true,aK.sh,cf,A.nF,A.aF,A.kE];cases E:b3 x.1 0 9999<;>cases U:b3 x.2.1 1 9999<;>cases ag:b3 x.2.2.2.2.1 1 9999<;>cases b3 x.2.2.1 0 100000<;>cases b3 x.2.2.2.1 0 100000<;>cases b3 x.2.2.2.2.2.1 0 100000<;>cases b3 x.2.2.2.2.2.2 0 100000<;>simp[E,U,ag]
 ·rfl
 ·intro i G b;have dK:i<4:=by omega
  have hw:=bz (n:=(i:Int)+1) (by omega) (by omega);have E:decide ((i:Int)<4)=true:=by grind
  simp only[E,if_true,bV,df G,cM G,A.bp,aK.sh,cf,A.nF,A.aF,ch,hw];exact l1 (mk:=λ(_:Unit)=>((4:Int),((i+1:Nat):Int),x,[x.2.2.1,x.2.2.2.1,x.2.2.2.2.2.1,x.2.2.2.2.2.2],()))
 simp
abbrev vR:aK:=⟨.ay iN ho,dd,λx=>x.1.1.length<2 ^ 63,λx=>lA x.1.1.length x.2⟩
theorem ak_(x):A.le (WM cf.sh x) (vR.sh x):=A.bq λh=>by
 have hw:=bz (n:=(x.1.1.length:Int) - 1) (by omega) (by omega);unfold WM;show _=A.pure (lA x.1.1.length x.2);unfold lA;simp only[aK.sh,cf,A.nF,A.aF,A.kE,bV,hw];grind
theorem ak'(x):A.le (WJ cf.sh vP.sh x) (vR.sh x):=A.bq λh=>by
 have hw:=bz (n:=(x.1.1.length:Int) - 1) (by omega) (by omega);unfold WJ;show _=A.pure (lA x.1.1.length x.2);unfold lA;simp only[aK.sh,cf,vP,A.nF,A.aF,A.kE,bV,hw];grind
abbrev D8:aK:=⟨.ay ho (.bH iN),dd,λx=>∃ c:aZ,x.2=some c/\c.1.length<2 ^ 63,λx=>!lA (x.2.getD ([],[],[],[],0,0,0,0,0,0,0)).1.length x.1⟩
theorem ala(x):A.le (WI vR.sh x) (D8.sh x):=A.bq λh=>by
 obtain⟨s,o⟩:=x;obtain⟨c,hc,h⟩:=h;change o=some c at hc;subst hc;unfold WI;simp only[Option.getD_some,aK.sh,vR,A.du];simp_all
abbrev AB:aK:=⟨bu,dd,λ_=>True,λx=>!b3 x 0 99⟩
theorem alb(x):A.le (WK vP.sh x) (AB.sh x):=A.bq λ_=>by
 unfold WK;simp[aK.sh,vP]
theorem W6(a b:a_):(decide (a.1=b.1)&&(decide (a.2.1=b.2.1)&&(decide (a.2.2.1=b.2.2.1)&&(decide (a.2.2.2.1=b.2.2.2.1)&&(decide (a.2.2.2.2.1=b.2.2.2.2.1)&&decide (a.2.2.2.2.2=b.2.2.2.2.2))))))=decide (a=b):=by
 grind
def uo(a b:a_):Bool:=decide (lz a=lz b)&&!decide (a=b)
abbrev HQ:aK:=⟨.ay ho ho,dd,λ_=>True,λx=>uo x.1 x.2⟩
theorem alc(x):A.le (Wz x) (HQ.sh x):=A.bq λ_=>by
 have h:=W6 x.1 x.2;unfold Wz;show _=A.pure (uo x.1 x.2);unfold uo;grind
abbrev mE:aK:=⟨.ay fE bu,dd,λx=>x.1.length<2 ^ 63,λx=>x.1.contains x.2⟩
theorem ald(x):A.le (akT x) ((kZ ho).sh x):=sN ho x
theorem ale(x):A.le (akN (kZ ho).sh x) ((jd ho).sh x):=sO ho x
abbrev oS:aK:=⟨fE,fE,λx=>x.length<=3000000,λx=>x⟩
theorem gb{n:Nat}(h:n<65536):bP n:=by unfold bP;omega
theorem alf(x):A.le (WO x) (oS.sh x):=A.sG λh=>by
 unfold WO;rw[A.gg];refine⟨⟨false,by simp⟩,λb W=>?_⟩;change b=true->x=[]at W;cases b with
 | true=>rw[W rfl];exact A.ea.2 rfl
 | false=>
  simp only[Bool.false_eq_true,if_false];exact A.kL.2 ⟨by change List.length x<=3000000 at h;simp only[hX,bP];omega,A.ea.2 (by simp)⟩
abbrev HR(c:aZ):Prop:=c.1.length<=20/\c.2.1.length<=40/\c.2.2.1.length<=60/\c.2.2.2.1.length<=40
abbrev vS:aK:=⟨iN,iN,HR,λx=>x⟩
theorem Og(x):A.le (V' x) (vS.sh x):=A.bq λh=>by
 obtain⟨E,U,ag,a1⟩:=h;unfold V';rw[A.bt (gb (by grind)),A.bt (gb (by grind)),A.bt (gb (by grind)),A.bt (gb (by grind))];simp
abbrev HS:aK:=⟨bu,dd,λ_=>True,λ_=>false⟩
theorem alg(x):A.le (WT x) (HS.sh x):=A.bq λ_=>by simp[WT]
abbrev HT:aK:=⟨.ay bu bu,bu,λ_=>True,λx=>if x.1<x.2 then -1 else if x.1 > x.2 then 1 else 0⟩
theorem alh(x):A.le (WR HS.sh x) (HT.sh x):=A.bq λ_=>by
 unfold WR;simp only[aK.sh,HS,A.nF,A.aF,Bool.false_eq_true,if_false,decide_eq_true_eq];grind
abbrev l5:aK:=⟨.ay HP HP,bu,λ_=>True,λx=>if x.1.2<x.2.2 then -1 else if x.1.2 > x.2.2 then 1 else 0⟩
theorem ali(x):A.le (WQ HT.sh x) (l5.sh x):=A.bq λ_=>by
 unfold WQ;simp only[aK.sh,HT,A.nF,A.aF]
abbrev Oh:aK:=⟨.int .u64,bu,λx=>0<=x/\x<=12,λx=>(D4 x).val 0⟩
theorem alj(x):A.le (D4 x) (Oh.sh x):=A.bq λh=>by
 have key:∃ v,D4 x=A.pure v:=by
  change Int at x;change (0:Int)<=x/\x<=12 at h;unfold D4;have aw:¬(x>=4294967296):=by omega
  have aN:¬(x>=65536):=by omega
  have cE:¬(x>=256):=by omega
  have ed:IntKind.wrap .u8 x=x:=by
   show (if (false&&decide (x % 2 ^ 8>=(2 ^ (8 - 1):Int)))=true then x % 2 ^ 8 - 2 ^ 8 else x % 2 ^ 8)=x;grind
  have la:0<=x/\x<Int.ofNat 256:=⟨h.1,by grind⟩
  simp only[decide_eq_true_eq,aw,aN,cE,if_false,A.aF,A.bY,ed,A.bt la];grind
 obtain⟨v,ae⟩:=key;simp_all
abbrev Oi:aK:=⟨.int .u64,bu,λx=>0<=x/\x<=12,λx=>(D4 x).val 0⟩
theorem alk(f)(x):A.le (WN f Oh.sh x) (Oi.sh x):=A.bq λh=>by
 unfold WN;simp only[aK.sh,A.du];simp_all
end Go.Fer.H
namespace Go.Fer.H
open A (V)
section
variable {ak:Type} (d:ak) (lt:ak->ak->Bool)
def vT(l:List ak):Nat->List ak
 | 0=>l
 | k+1=>if lt (l.getD (k+1) d) (l.getD k d)=true then vT ((l.set (k+1) (l.getD k d)).set k (l.getD (k+1) d)) k else l
def pC(e:ak):List ak->List ak
 | []=>[e]
 | a::r=>if lt e a=true then a::pC e r else e::a::r
def uq(l:List ak):List ak:=l.foldl (λr e=>pC lt e r) []
def ft(l:List ak):List ak:=(uq lt l).reverse
theorem W7:∀ (r:List ak) (e:ak) (R:List ak),vT d lt (r.reverse++e::R) r.length=(pC lt e r).reverse++R
 | [],e,R=>rfl
 | a::r,e,R=>by
  have aw:((a::r).reverse++e::R).getD (r.length+1) d=e:=by
   simp
  have aN:((a::r).reverse++e::R).getD r.length d=a:=by
   simp
  show vT d lt ((a::r).reverse++e::R) (r.length+1)=_;unfold vT;rw[aw,aN];unfold pC;split
  ·have cE:(((a::r).reverse++e::R).set (r.length+1) a).set r.length e=r.reverse++e::(a::R):=by
    simp
   rw[cE,W7 r e (a::R)];simp
  ·simp
theorem Oj(e:ak):∀ r:List ak,(pC lt e r).Perm (e::r)
 | []=>.refl _
 | a::r=>by
  unfold pC;split
  ·exact ((Oj e r).cons a).trans (List.Perm.swap e a r)
  rfl
theorem W8:∀ (l r:List ak),(l.foldl (λr e=>pC lt e r) r).Perm (l++r)
 | [],r=>.refl _
 | x::l,r=>by
  simp only[List.foldl_cons];refine (W8 l _).trans ?_;refine ((Oj lt x r).append_left l).trans ?_;simp
theorem W9(l:List ak):(uq lt l).Perm l:=by
 have:=W8 lt l [];rwa [List.append_nil]at this
theorem D9(l:List ak):(ft lt l).Perm l:=(List.reverse_perm _).trans (W9 lt l)
theorem W_(l:List ak):(uq lt l).length=l.length:=(W9 lt l).length_eq
theorem HU(l:List ak):(ft lt l).length=l.length:=(D9 lt l).length_eq
theorem W'{l:List ak}{x:ak}:x∈ft lt l<->x∈l:=(D9 lt l).mem_iff
theorem alm(l:List ak)(e:ak):uq lt (l++[e])=pC lt e (uq lt l):=by simp[uq]
def qw(l:List ak)(n:Nat):List ak:=(uq lt (l.take n)).reverse++l.drop n
theorem aln(l:List ak):qw lt l 1=l:=by
 cases l with
 | nil=>rfl
 | cons x l=>rfl
theorem alo(l:List ak):qw lt l l.length=ft lt l:=by simp[qw,ft]
theorem alp(l:List ak)(n:Nat)(h:n<=l.length):(qw lt l n).length=l.length:=by
 simp[qw,W_,Nat.min_eq_left h];omega
theorem alq{l:List ak}{n:Nat}(h:n<l.length):vT d lt (qw lt l n) n=qw lt l (n+1):=by
 have aw:(uq lt (l.take n)).length=n:=by rw[W_];grind
 have:=W7 d lt (uq lt (l.take n)) l[n] (l.drop (n+1));rw[aw]at this;unfold qw;rw[List.drop_eq_getElem_cons h,this,List.take_add_one,List.getElem?_eq_getElem h,Option.toList_some,alm]
theorem Ol(cb:∀ a b,lt a b=false->lt b a=true\/lt b a=false)(aV:∀ a b c:ak,lt a b=false->lt b c=false->lt a c=false)(Xa:∀ a b,lt a b=true->lt b a=false)(e:ak):∀ r:List ak,r.Pairwise (λa b=>lt a b=false)->(pC lt e r).Pairwise (λa b=>lt a b=false)
 | [],_=>by simp[pC]
 | a::r,h=>by
  rw[List.pairwise_cons]at h;unfold pC;split
  ·rename_i he;refine List.pairwise_cons.2 ⟨λx ah=>?_,Ol cb aV Xa e r h.2⟩;rcases List.mem_cons.1 ((Oj lt e r).mem_iff.1 ah) with rfl | ah
   ·exact Xa _ _ he
   ·exact h.1 x ah
  ·rename_i he;have he:lt e a=false:=by grind
   refine List.pairwise_cons.2 ⟨λx ah=>?_,List.pairwise_cons.2 h⟩;grind
end
def hq(a b:Int):Bool:=decide (a<b)
def hY(a b:bA):Bool:=decide (a.2<b.2)
theorem Xb:∀ (l r:z1'),r.Pairwise (λa b=>hq a b=false)->(l.foldl (λr e=>pC hq e r) r).Pairwise (λa b=>hq a b=false)
 | [],r,h=>h
 | x::l,r,h=>Xb l _ (Ol hq (λa b _=>by simp) (λa b c E U=>by simp[hq]at *;omega) (λa b h=>by simp[hq]at *;omega) x r h)
theorem Om(l:z1'):(ft hq l).Pairwise (·<=·):=by
 have:=Xb l [] .nil;unfold ft;rw[List.pairwise_reverse];exact this.imp λh=>by simp[hq]at h;exact h
theorem Xc:∀ (l r:List bA),r.Pairwise (λa b=>hY a b=false)->(l.foldl (λr e=>pC hY e r) r).Pairwise (λa b=>hY a b=false)
 | [],r,h=>h
 | x::l,r,h=>Xc l _ (Ol hY (λa b _=>by simp) (λa b c E U=>by simp[hY]at *;omega) (λa b h=>by simp[hY]at *;omega) x r h)
theorem alr(l:List bA):(ft hY l).Pairwise λa b=>a.2<=b.2:=by
 have:=Xc l [] .nil;unfold ft;rw[List.pairwise_reverse];exact this.imp λh=>by simp[hY]at h;exact h
theorem AD{l m:z1'}(h:m.Pairwise (·<=·))(an:l.Perm m):ft hq l=m:=
 List.Perm.eq_of_pairwise (λa b _ _ E U=>by omega) (Om l) h ((D9 hq l).trans an)
theorem Xd{l m:z1'}(an:l.Perm m):ft hq l=ft hq m:=AD (Om m) (an.trans (D9 hq m).symm)
theorem als{ak:Type}{d:ak}{lt:ak->ak->Bool}{D aI:Type}{body:D->A (V D aI)}{s0:D}(mk:Nat->List ak->D)(fin:List ak->aI)(hk:Nat)(fh:List ak)(nb:s0=mk hk fh)(mW:hk<fh.length)
  (aD:∀ k l,l.length=fh.length->k<fh.length->body (mk k l)=A.pure (if 0<k/\lt (l.getD k d) (l.getD (k - 1) d)=true then .next (mk (k - 1) ((l.set k (l.getD (k - 1) d)).set (k - 1) (l.getD k d))) else .done (fin l))) :
  A.loop body s0=A.pure (fin (vT d lt fh hk)):=by
 subst nb;have key:∀ k l,l.length=fh.length->k<fh.length->A.loop body (mk k l)=A.pure (fin (vT d lt l k)):=by
  intro k;induction k with
  | zero=>
   intro l aj al;exact A.rZ (by rw[aD 0 l aj al,if_neg (by simp)];rfl)
  | succ k aJ=>
   intro l aj al;unfold vT;by_cases h:lt (l.getD (k+1) d) (l.getD k d)=true
   ·rw[if_pos h,A.yY (s':=mk k ((l.set (k+1) (l.getD k d)).set k (l.getD (k+1) d)))]
    ·exact aJ _ (by simpa using aj) (by omega)
    ·rw[aD (k+1) l aj al,if_pos ⟨by omega,h⟩];rfl
   ·rw[if_neg h];exact A.rZ (by grind)
 grind
theorem On{ak:Type}{l:List ak}{d:ak}{k:Nat}:l.getD ((k:Int) - 1).toNat d=l.getD (k - 1) d:=by
 simp
theorem Xe{ak:Type}{l:List ak}{d:ak}{k:Nat}:l.getD ((k:Int)).toNat d=l.getD k d:=by rfl
theorem alu{D aI:Type}{c:Bool}{p:Prop}[Decidable p](h:c=decide p){x y:A (V D aI)}{a b:V D aI}(E:p->x=A.pure a)(U:¬p->y=A.pure b):(if c=true then x else y)=A.pure (if p then a else b):=by
 grind
def HV(x:Int×Int×(bA×a_×Int->A Int)×List bA×Unit):A (List bA×Unit):=A.dR (x.1=0/\x.2.1=(x.2.2.2.1.length:Int)/\x.2.2.2.1.length<=12/\x.2.2.1=l5.sh) (ft hY x.2.2.2.1,())
theorem alv(x):A.le (WX x) (HV x):=A.bq λh=>by
 obtain⟨a,b,f,l,u⟩:=x;obtain⟨E,U,ag,a1⟩:=h;change a=0 at E;change b=(l.length:Int) at U;change l.length<=12 at ag;change f=l5.sh at a1;subst E;subst U;subst a1;unfold WX;rw[A.dt (List.range (l.length - 1)) (λi (_:Unit)=>(0,(l.length:Int),l5.sh,((i+1:Nat):Int),qw hY l (i+1),())) (λ_ _=>.next ()) (λ_=>(ft hY l,())) () ?_ ?_ ?_]
 ·rw[dP]
 ·show (0,(l.length:Int),l5.sh,IntKind.wrap .i64 (Add.add 0 1),l,())=(0,(l.length:Int),l5.sh,((0+1:Nat):Int),qw hY l (0+1),())
  rw[aln];rfl
 ·intro i G _;have G:i+1<l.length:=by grind
  have aj:=alp hY l (i+1) (by omega);have hw:=bz (n:=((i+1:Nat):Int)+1) (by omega) (by omega);have au:decide (((i+1:Nat):Int)<(l.length:Int))=true:=by grind
  simp only[au,if_true];rw[als (d:=((0,0,0,0,0,0),0)) (lt:=hY) (λk m=>(0,(l.length:Int),l5.sh,((i+1:Nat):Int),(k:Int),m,())) (λm=>.next (0,(l.length:Int),l5.sh,((i+1:Nat):Int),m,())) (i+1) (qw hY l (i+1)) rfl (by omega) ?_]
  ·simp only[A.aF,A.bY,ch,hw,alq ((0,0,0,0,0,0),0) hY G];rfl
  ·intro k m hm al;have gW:0<k->IntKind.wrap .i64 ((k:Int) - 1)=(k:Int) - 1:=λ_=>bz (by omega) (by omega);by_cases mW:0<k
   ·have an:decide ((k:Int) > 0)=true:=by grind
    have b4:(0:Int)<=(k:Int)/\(k:Int)<Int.ofNat m.length:=⟨by omega,by grind⟩
    have cv:(0:Int)<=(k:Int) - 1/\(k:Int) - 1<Int.ofNat m.length:=⟨by omega,by omega⟩
    have ef:(0:Int)<=(k:Int) - 1/\(k:Int) - 1<Int.ofNat (m.set k (m.getD (k - 1) ((0,0,0,0,0,0),0))).length:=⟨by omega,by grind⟩
    have HW:((k:Int) - 1)=((k - 1:Nat):Int):=by omega
    simp only[an,gW mW,b4,cv,forall_const,and_self,true_and,A.bp,aK.sh,l5,A.nF,A.kE,A.aF,if_true,Bool.true_and,On,Xe,Int.toNat_natCast,ef];rw[show ((k:Int) - 1).toNat=k - 1 from by omega];refine alu (p:=0<k/\hY (m.getD k ((0,0,0,0,0,0),0)) (m.getD (k - 1) ((0,0,0,0,0,0),0))=true) ?_ (λ_=>?_) (λ_=>rfl)
    ·rw[Bool.eq_iff_iff];simp only[hY,mW,true_and,decide_eq_true_eq];grind
    rw[HW]
   ·have Xf:k=0:=by omega
    subst Xf;simp[cq]
 ·intro _;have e:qw hY l (l.length - 1+1)=ft hY l:=by
   cases l with
   | nil=>rfl
   | cons x r=>exact alo hY (x::r)
  have au:decide (((l.length - 1+1:Nat):Int)<(l.length:Int))=false:=by grind
  simp only[List.length_range,au,Bool.false_eq_true,if_false,e,A.aF]
def HX(x:Int×Int×Int×(bA×a_×Int->A Int)×List bA×Unit):A (List bA×Unit):=A.dR (x.1=0/\x.2.1=(x.2.2.2.2.1.length:Int)/\x.2.2.2.2.1.length<=12/\x.2.2.2.1=l5.sh) (ft hY x.2.2.2.2.1,())
theorem alw(x):A.le (W3 HV x) (HX x):=A.bq λh=>by
 obtain⟨a,b,c,f,l,u⟩:=x;obtain⟨E,U,ag,a1⟩:=h;change a=0 at E;change b=(l.length:Int) at U;change l.length<=12 at ag;change f=l5.sh at a1;subst E;subst U;subst a1;unfold W3;refine A.rZ ?_;have hw:=bz (n:=(l.length:Int) - 0) (by omega) (by omega);have au:decide ((l.length:Int) - 0<=12)=true:=by grind
 simp only[hw,au,if_true];unfold HV;simp_all
theorem alx{n:Int}(h:0<=n)(U:n<=12):IntKind.wrap .u64 n=n:=by
 show (if (false&&decide (n % 2 ^ 64>=(2 ^ (64 - 1):Int)))=true then n % 2 ^ 64 - 2 ^ 64 else n % 2 ^ 64)=n;grind
def ya(x:z1'×Unit):A (z1'×Unit):=A.dR (x.1.length<4611686018427387904) (ft hq x.1,())
def AE(x:(bA×a_×Int->A Int)×List bA×Unit):A (List bA×Unit):=A.dR (x.2.1.length<=12/\x.1=l5.sh) (ft hY x.2.1,())
theorem aly(x):A.le (W5 Oi.sh HX x) (AE x):=A.bq λh=>by
 obtain⟨f,l,u⟩:=x;obtain⟨h,a1⟩:=h;change l.length<=12 at h;change f=l5.sh at a1;subst a1;unfold W5;have hw:=alx (n:=(l.length:Int)) (by omega) (by omega);show A.bind (A.dR (0<=IntKind.wrap .u64 (l.length:Int)/\IntKind.wrap .u64 (l.length:Int)<=12) _) _=_;rw[A.du,A.bt (by omega)];unfold HX;simp_all
def AF(x:(z1'->Prop)×Unit):A (z1'×Unit):=⟨(∃ L,x.1 L)/\∀ L,x.1 L->L.length<60000,λy=>x.1 y.1⟩
theorem Xg:∀ (L acc:z1'),L.length+acc.length<60000->jL (λ(D:z1'×Unit) (y:Int)=>A.bind (A.ab (bP (Add.add (List.length D.1) (Add.add 0 1))) (A.pure (di.normal,D.1++[y],()))) λp=>A.pure (p.1,p.2.1,())) L (acc,())=A.pure (.normal,acc++L,())
 | [],acc,_=>by simp[jL]
 | x::L,acc,h=>by
  simp only[List.length_cons]at h;unfold jL;rw[A.bt (gb (by grind))];simp only[A.aF];rw[Xg L (acc++[x]) (by grind)];simp
theorem alz(x):A.le (WU x) (AF x):=λh=>by
 obtain⟨S,u⟩:=x;obtain⟨E,U⟩:=h;show A.cx _ _;unfold WU;rw[A.gg];refine⟨E,λL iK=>?_⟩;have iK:S L:=iK;show A.cx (A.bind (jL _ L ([],())) _) _;rw[Xg L [] (by grind)];simp only[A.aF,sq,List.nil_append];exact A.ea.2 iK
theorem alA(x):A.le (WV AF x) (AF x):=λh=>by
 obtain⟨S,u⟩:=x;show A.cx _ _;unfold WV;rw[A.gg];exact⟨h,λy aQ=>A.ea.2 aQ⟩
open Classical in
def AG(S:z1'->Prop):z1':=if h:∃ L,S L then ft hq h.choose else []
abbrev sP:aK:=⟨.cr bu,fE,λS=>(∃ L,S L)/\(∀ L e6,S L->S e6->L.Perm e6)/\∀ L,S L->L.length<60000,λS=>AG S⟩
theorem alB(x):A.le (Wm ya AF x) (sP.sh x):=A.sG λh=>by
 obtain⟨E,U,ag⟩:=h;unfold Wm;rw[A.gg];refine⟨⟨E,λL iK=>by grind⟩,λy aQ=>?_⟩;have aQ:x y.1:=aQ;unfold ya;show A.cx (A.bind (A.dR _ _) _) _;rw[A.du,A.kL];refine⟨Nat.lt_trans (ag _ aQ) (by decide),A.ea.2 ?_⟩;show ft hq y.1=AG x;unfold AG;rw[dif_pos E];exact Xd (U _ _ aQ E.choose_spec)
theorem alC{S:z1'->Prop}{L:z1'}(h:S L)(U:∀ L e6,S L->S e6->L.Perm e6):AG S=ft hq L:=by
 have E:∃ L,S L:=⟨L,h⟩
 unfold AG;rw[dif_pos E];exact Xd (U _ _ E.choose_spec h)
def jR{ak:Type}(x:Option (List (Int×ak)))(L:z1'):Prop:=∃ m,x=some m/\(m.map (·.1)).Perm L
abbrev HY:aK:=⟨.map bu bu,.cr bu,λ_=>True,λx=>jR (some x)⟩
theorem alD(x):A.le (akz jR x) (HY.sh x):=A.bq λ_=>rfl
abbrev yb:aK:=⟨.map bu ho,.cr bu,λ_=>True,λx=>jR (some x)⟩
theorem alE(x):A.le (akQ jR x) (yb.sh x):=A.bq λ_=>rfl
theorem ur{ak:Type}{m:List (Int×ak)}{L:z1'}:jR (some m) L<->(m.map (·.1)).Perm L:=⟨λ⟨dx,h,k⟩=>by grind,λh=>⟨m,rfl,h⟩⟩
theorem Xh{ak:Type}{m:List (Int×ak)}(h:m.length<60000):sP.pre (jR (some m)):=
 ⟨⟨_,ur.2 (.refl _)⟩,λL e6 E U=>(ur.1 E).symm.trans (ur.1 U),λL iK=>by rw[<-(ur.1 iK).length_eq];grind⟩
theorem Xi{ak:Type}{m:List (Int×ak)}:AG (jR (some m))=ft hq (m.map (·.1)):=
 alC (ur.2 (.refl _)) λL e6 E U=>(ur.1 E).symm.trans (ur.1 U)
end Go.Fer.H
namespace Go.Fer.H
open A (V)
def sQ(s:Int×Int):Bool:=b3 s.1 (-30) s.2&&!decide (s.2 > 30)
def iP(l:z4')(i:Nat):Bool:=b3 (l.getD i (0,0)).1 0 (l.getD i (0,0)).2&&!decide ((l.getD i (0,0)).2 > 9999)&&!(decide (0<i)&&decide ((l.getD i (0,0)).1<=(l.getD (i - 1) (0,0)).2))
def AH(l:z4'):Bool:=(List.range l.length).all (iP l)
def sR(c:aZ):Bool:=!(decide ((c.1.length:Int) > 3)||decide ((c.2.1.length:Int) > 12)||decide ((c.2.2.1.length:Int) > 12)||decide ((c.2.2.2.1.length:Int) > 4))&&pB c.2.2.2.2
def jS(c:aZ):Bool:=sR c&&c.1.all sQ&&c.2.1.all (lA c.1.length)&&c.2.2.1.all (λn=>b3 n 0 99)&&AH c.2.2.2.1
abbrev vU:aK:=⟨iN,dd,ix,λc=>jS c⟩
theorem HZ{D aI β:Type}{mk:β->D}{b:β}{q:Bool}{r:aI}{m:A (V D aI)}(E:q=true->m=A.pure (.next (mk b)))(U:q=false->m=A.pure (.done r)):m=A.pure (V.hl mk (if (!q)=true then .done r else .next b)):=by
 cases q
 ·exact U rfl
 ·exact E rfl
theorem Xj{ak:Type}{a t:Bool}{m n:ak}:(if (a||!(if (!a)=true then t else false))=true then m else n)=if (!a&&t)=true then n else m:=by grind
theorem alF(x):A.le (Wx cf.sh vQ.sh vR.sh x) (vU.sh x):=A.bq λh=>by
 obtain⟨aP,aR,bO,gx⟩:=h;unfold Wx;show _=A.pure (jS x);simp only[aK.sh,vQ,A.nF,A.kE,A.aF,bV,Xj];unfold jS;rw[show (!(decide ((x.1.length:Int) > 3)||decide ((x.2.1.length:Int) > 12)||decide ((x.2.2.1.length:Int) > 12)||decide ((x.2.2.2.1.length:Int) > 4))&&pB x.2.2.2.2)=sR x from rfl];cases W:sR x with
 | false=>rfl
 | true=>
  rw[if_pos rfl];rw[A.dt x.1 (λi (_:Unit)=>((i:Int),x,())) (λy b=>if (!sQ y)=true then .done (.done false) else .next b) (λ_=>.next (x,())) () ?_ ?_ ?_]
  ·rw[kg (q:=sQ) _ _ (λ_=>rfl)];cases hc:x.1.all sQ with
   | false=>simp
   | true=>
    simp only[if_true,A.aF,A.bY];rw[A.dt x.2.1 (λi (_:Unit)=>((i:Int),x,())) (λy b=>if (!lA x.1.length y)=true then .done (.done false) else .next b) (λ_=>.next (x,())) () ?_ ?_ ?_]
    ·rw[kg (q:=lA x.1.length) _ _ (λ_=>rfl)];cases au:x.2.1.all (lA x.1.length) with
     | false=>simp
     | true=>
      simp only[if_true,A.aF,A.bY];rw[A.dt x.2.2.1 (λi (_:Unit)=>((i:Int),x,())) (λy b=>if (!b3 y 0 99)=true then .done (.done false) else .next b) (λ_=>.next (x,())) () ?_ ?_ ?_]
      ·rw[kg (q:=λn=>b3 n 0 99) _ _ (λ_=>rfl)];cases he:x.2.2.1.all (λn=>b3 n 0 99) with
       | false=>simp
       | true=>
        simp only[if_true,A.aF,A.bY];rw[A.dt (List.range x.2.2.2.1.length) (λi (_:Unit)=>((i:Int),x,())) (λy b=>if (!iP x.2.2.2.1 y)=true then .done (.done false) else .next b) (λ_=>.next ()) () ?_ ?_ ?_]
        ·rw[kg (q:=iP x.2.2.2.1) _ _ (λ_=>rfl)];unfold AH;cases (List.range x.2.2.2.1.length).all (iP x.2.2.2.1)<;>simp
        ·rfl
        ·intro i G b;have G:i<x.2.2.2.1.length:=by grind
         have hw:=bz (n:=(i:Int)+1) (by omega) (by omega);have gW:=bz (n:=(i:Int) - 1) (by omega) (by omega);have jv:x.2.2.2.1.getD i (0,0)=x.2.2.2.1[i]:=by grind
         have sS:(decide ((i:Int) > 0))=decide (0<i):=by simp
         have M:decide (0<i)=true->((0:Int)<=(i:Int) - 1/\(i:Int) - 1<(x.2.2.2.1.length:Int)):=λh=>by grind
         refine HZ (mk:=λ(_:Unit)=>(((i+1:Nat):Int),x,())) (b:=b) ?_ ?_<;>intro br<;>
         ·simp only[List.getElem_range,iP,jv]at br;simp only[bV,cU G,if_true,df G,cM G,A.bp,aK.sh,cf,A.nF,A.iT,A.fB,ch,hw,gW,sS,On,List.getElem_range];revert br;generalize b3 x.2.2.2.1[i].1 0 x.2.2.2.1[i].2=dN;generalize decide (x.2.2.2.1[i].2 > 9999)=e0;generalize decide (x.2.2.2.1[i].1<=(x.2.2.2.1.getD (i - 1) (0,0)).2)=mJ;revert M;generalize decide (0<i)=rY;intro M;cases rY
          ·cases dN<;>cases e0<;>cases mJ<;>simp
          ·have M:=M rfl;cases dN<;>cases e0<;>cases mJ<;>simp[M,(by omega:(1:Int)<=(i:Int))]
        simp
      ·rfl
      ·intro i G b;have hw:=bz (n:=(i:Int)+1) (by omega) (by omega);simp only[bV,cU G,if_true,df G,cM G,A.bp,aK.sh,cf,A.nF,A.aF,ch,hw];exact l1 (mk:=λ(_:Unit)=>(((i+1:Nat):Int),x,()))
      simp
    ·rfl
    ·intro i G b;have hw:=bz (n:=(i:Int)+1) (by omega) (by omega);simp only[bV,cU G,if_true,df G,cM G,A.bp,aK.sh,vR,A.mA,A.gz,A.aF,ch,hw];rw[A.bt aP];exact l1 (mk:=λ(_:Unit)=>(((i+1:Nat):Int),x,()))
    simp
  ·rfl
  ·intro i G b;have hw:=bz (n:=(i:Int)+1) (by omega) (by omega);refine HZ (mk:=λ(_:Unit)=>(((i+1:Nat):Int),x,())) (b:=b) ?_ ?_<;>intro br<;>
   ·simp only[sQ]at br;simp only[bV,cU G,if_true,df G,cM G,A.bp,aK.sh,cf,A.nF,A.iT,A.fB,ch,hw];revert br;generalize b3 x.1[i].1 (-30) x.1[i].2=dN;generalize decide (x.1[i].2 > 30)=e0;simp_all
  simp
theorem Xk{ak:Type}{p:ak->Bool}(l:List ak):(l.any λy=>!p y)=!l.all p:=by grind
theorem alG(x):A.le (Ww cf.sh (jd ho).sh vQ.sh (jd bu).sh D8.sh AB.sh x) (vU.sh x):=A.bq λh=>by
 obtain⟨aP,aR,bO,gx⟩:=h;unfold Ww;show _=A.pure (jS x);simp only[show vQ.sh x.2.2.2.2=A.pure (pB x.2.2.2.2) from rfl,A.kE,A.aF,bV,Xj];unfold jS;rw[show (!(decide ((x.1.length:Int) > 3)||decide ((x.2.1.length:Int) > 12)||decide ((x.2.2.1.length:Int) > 12)||decide ((x.2.2.2.1.length:Int) > 4))&&pB x.2.2.2.2)=sR x from rfl];cases W:sR x with
 | false=>rfl
 | true=>
  rw[if_pos rfl];rw[A.dt x.1 (λi (_:Unit)=>(x.1,(x.1.length:Int),(i:Int),x,())) (λy b=>if (!sQ y)=true then .done (.done false) else .next b) (λ_=>.next (x,())) () ?_ ?_ ?_]
  ·rw[kg (q:=sQ) _ _ (λ_=>rfl)];cases hc:x.1.all sQ with
   | false=>simp
   | true=>
    simp only[if_true,A.aF,A.bY];rw[A.dt (List.range x.2.2.2.1.length) (λi (_:Unit)=>(x.2.2.2.1,(x.2.2.2.1.length:Int),(i:Int),x,())) (λy b=>if (!iP x.2.2.2.1 y)=true then .done (.done false) else .next b) (λ_=>.next (x,())) () ?_ ?_ ?_]
    ·rw[kg (q:=iP x.2.2.2.1) _ _ (λ_=>rfl)];unfold AH;cases au:(List.range x.2.2.2.1.length).all (iP x.2.2.2.1) with
     | false=>simp
     | true=>
      simp only[if_true,A.aF,A.bY];have aw:(jd ho).sh (x.2.1,λy=>D8.sh (y,some x))=A.pure (!x.2.1.all (lA x.1.length)):=by
       have ao:∀ y,D8.sh (y,some x)=A.pure (!lA x.1.length y):=λy=>A.bR ⟨x,rfl,aP⟩ _;refine (A.bR ⟨aR,λy _=>⟨_,ao y⟩⟩ _).trans ?_;refine congrArg A.pure ?_;rw[<-Xk];simp_all
      have aN:(jd bu).sh (x.2.2.1,AB.sh)=A.pure (!x.2.2.1.all (λn=>b3 n 0 99)):=by
       refine (A.bR ⟨bO,λy _=>⟨_,rfl⟩⟩ _).trans ?_;refine congrArg A.pure ?_;rw[<-Xk];show (x.2.2.1.any λy=>(AB.sh y).val false)=_;simp only[show ∀ y,AB.sh y=A.pure (!b3 y 0 99) from λ_=>rfl,A.fB]
      rw[aw,aN];simp only[A.aF,A.kE];grind
    ·rfl
    ·intro i G b;have G:i<x.2.2.2.1.length:=by grind
     have hw:=bz (n:=(i:Int)+1) (by omega) (by omega);have gW:=bz (n:=(i:Int) - 1) (by omega) (by omega);have jv:x.2.2.2.1.getD i (0,0)=x.2.2.2.1[i]:=by grind
     have sS:(decide ((i:Int) > 0))=decide (0<i):=by simp
     have M:decide (0<i)=true->((0:Int)<=(i:Int) - 1/\(i:Int) - 1<(x.2.2.2.1.length:Int)):=λh=>by grind
     refine HZ (mk:=λ(_:Unit)=>(x.2.2.2.1,(x.2.2.2.1.length:Int),((i+1:Nat):Int),x,())) (b:=b) ?_ ?_<;>intro br<;>
     ·simp only[List.getElem_range,iP,jv]at br;simp only[bV,cU G,if_true,df G,cM G,A.bp,aK.sh,cf,A.nF,A.iT,A.fB,ch,hw,gW,sS,On,List.getElem_range];revert br;generalize b3 x.2.2.2.1[i].1 0 x.2.2.2.1[i].2=dN;generalize decide (x.2.2.2.1[i].2 > 9999)=e0;generalize decide (x.2.2.2.1[i].1<=(x.2.2.2.1.getD (i - 1) (0,0)).2)=mJ;revert M;generalize decide (0<i)=rY;intro M;cases rY
      ·cases dN<;>cases e0<;>cases mJ<;>simp
      ·have M:=M rfl;cases dN<;>cases e0<;>cases mJ<;>simp[M,(by omega:(1:Int)<=(i:Int))]
    simp
  ·rfl
  ·intro i G b;have hw:=bz (n:=(i:Int)+1) (by omega) (by omega);refine HZ (mk:=λ(_:Unit)=>(x.1,(x.1.length:Int),((i+1:Nat):Int),x,())) (b:=b) ?_ ?_<;>intro br<;>
   ·simp only[sQ]at br;simp only[bV,cU G,if_true,df G,cM G,A.bp,aK.sh,cf,A.nF,A.aF,ch,hw];grind
  simp
abbrev jw:a_:=(0,0,0,0,0,0)
def k0(l:List a_):Bool:=(List.range l.length).any λi=>(List.range i).any λk=>uo (l.getD k jw) (l.getD i jw)
def cw(c:aZ):Int:=if jS c=true then (if k0 c.2.1=true then 91 else 0) else 90
abbrev hr:aK:=⟨iN,bu,ix,λc=>cw c⟩
theorem sT{ak:Type}{l:List ak}{i:Nat}{d:ak}(h:i<l.length):l.getD i d=l[i]:=by grind
theorem alH(x):A.le (Wf vU.sh HQ.sh x) (hr.sh x):=A.bq λh=>by
 obtain⟨aP,aR,bO,gx⟩:=id h;unfold Wf;show _=A.pure (cw x);rw[show vU.sh x=A.pure (jS x) from A.bR h _];unfold cw;cases jS x with
 | false=>simp
 | true=>
  simp only[A.aF,Bool.not_true,Bool.false_eq_true,if_false,if_true];rw[A.dt (List.range x.2.1.length) (λi (_:Unit)=>((i:Int),x,())) (λi b=>if ((List.range i).any λk=>uo (x.2.1.getD k jw) (x.2.1.getD i jw))=true then .done (.done 91) else .next b) (λ_=>.next ()) () ?_ ?_ ?_]
  ·rw[rs];unfold k0;cases (List.range x.2.1.length).any λi=>(List.range i).any λk=>uo (x.2.1.getD k jw) (x.2.1.getD i jw)<;>simp
  ·rfl
  ·intro i G b;have G:i<x.2.1.length:=by grind
   have hw:=bz (n:=(i:Int)+1) (by omega) (by omega);have au:decide ((i:Int)<Int.ofNat x.2.1.length)=true:=cU G;simp only[au,if_true,List.getElem_range];rw[A.dt (List.range i) (λk (_:Unit)=>((i:Int),(k:Int),x,())) (λk b=>if uo (x.2.1.getD k jw) (x.2.1.getD i jw)=true then .done (.done (.done (.done 91))) else .next b) (λ_=>(.next ((i:Int),x,()):V (Int×aZ×Unit) (V (Int×aZ×Unit) (V Unit Int)))) () ?_ ?_ ?_]
   ·rw[rs];cases (List.range i).any λk=>uo (x.2.1.getD k jw) (x.2.1.getD i jw)<;>simp[hw]
   ·rfl
   ·intro k al b;have al:k<i:=by grind
    have rz:k<x.2.1.length:=by omega
    have hw:=bz (n:=(k:Int)+1) (by omega) (by omega);have au:decide ((k:Int)<(i:Int))=true:=by grind
    simp only[au,if_true,bV,cM rz,cM G,A.bp,aK.sh,HQ,A.nF,A.iT,A.fB,A.aF,ch,hw,List.getElem_range,Xe];exact l1 (mk:=λ(_:Unit)=>((i:Int),((k+1:Nat):Int),x,()))
   simp
  simp
def gX(l:List a_):List a_:=(eh 0 99).filterMap λid=>l.find? λs=>s.1 == id
def fu(c:aZ):List a_:=(gX c.2.1).filter λs=>!c.2.2.1.contains s.1
theorem alI(l:List a_):(gX l).length<=100:=by
 refine Nat.le_trans (List.length_filterMap_le _ _) ?_;rw[show (eh 0 99).length=100 from by decide];omega
def jx(m:List (Int×a_))(k:Int):Option a_:=(m.find? λp=>decide (k=p.1)).map (·.2)
def je(m:List (Int×a_)):z1':=m.map (·.1)
theorem Oo(p:Int×a_)(m:List (Int×a_))(k:Int)(v:a_):kW (p::m) k v=if decide (k=p.1)=true then (p.1,v)::m else p::kW m k v:=rfl
theorem Oq(k:Int)(v:a_):kW [] k v=[(k,v)]:=rfl
theorem Xl(k:Int)(v:a_):∀ m:List (Int×a_),(kW m k v).length<=m.length+1
 | []=>by rw[Oq];simp
 | p::m=>by
  rw[Oo];split
  ·simp
  ·simp;exact Xl k v m
theorem Ot(k:Int)(v:a_)(x:Int):∀ m:List (Int×a_),jx (kW m k v) x=if x=k then some v else jx m x
 | []=>by
  rw[Oq];by_cases h:x=k<;>simp[jx,h]
 | p::m=>by
  rw[Oo];have aJ:=Ot k v x m;unfold jx at aJ ⊢;grind
theorem D_(k:Int)(v:a_):∀ m:List (Int×a_),((je m).Nodup->(je (kW m k v)).Nodup)/\∀ x,x∈je (kW m k v)<->x∈je m\/x=k
 | []=>by rw[Oq];simp[je]
 | p::m=>by
  obtain⟨E,U⟩:=D_ k v m;rw[Oo];by_cases h:k=p.1
  ·subst h;simp only[decide_true,if_true];refine⟨λh=>h,λx=>?_⟩;show x∈p.1::je m<->x∈p.1::je m\/x=p.1;grind
  ·simp only[h,decide_false,Bool.false_eq_true,if_false];refine⟨λaA=>?_,λx=>?_⟩
   ·show (p.1::je (kW m k v)).Nodup;have CA:(p.1::je m).Nodup:=aA;grind
   ·show x∈p.1::je (kW m k v)<->x∈p.1::je m\/x=k;grind
theorem Xm{m:List (Int×a_)}{k:Int}:k∈je m<->(jx m k).isSome=true:=by
 unfold jx je;simp
def AI(l:List a_):Prop:=∀ a∈l,∀ b∈l,a.1=b.1->a=b
def qx(l:List a_)(k:Int):Option a_:=l.find? λs=>s.1 == k
def rA:List a_->List (Int×a_)->Option (List (Int×a_))
 | [],m=>some m
 | s::l,m=>if ((jx m s.1).isSome&&!decide ((jx m s.1).getD jw=s))=true then none else rA l (kW m s.1 s)
structure uu(P:List a_)(m:List (Int×a_)):Prop where
 oN:∀ k,jx m k=qx P k
 mx:(je m).Nodup
 AJ:AI P
 D':m.length<=P.length
theorem Xn{l:List a_}{k:Int}{s:a_}(h:qx l k=some s):s∈l/\s.1=k:=by
 unfold qx at h;grind
theorem alJ{l:List a_}{k:Int}(h:qx l k=none):∀ s∈l,s.1≠k:=by
 unfold qx at h;grind
theorem uu.nil:uu [] []:=⟨λ_=>rfl,.nil,λa h=>by simp,Nat.le_refl _⟩
theorem AK:∀ (l P:List a_) (m:List (Int×a_)),uu P m->(AI (P++l)->∃ dx,rA l m=some dx/\uu (P++l) dx)/\(¬AI (P++l)->rA l m=none)
 | [],P,m,h=>by simp only[List.append_nil];exact⟨λ_=>⟨m,rfl,h⟩,λaA=>absurd h.AJ aA⟩
 | s::l,P,m,h=>by
  unfold rA;rw[h.oN];cases ao:qx P s.1 with
  | some o=>
   obtain⟨af,G⟩:=Xn ao;by_cases he:o=s
   ·subst he;simp only[Option.isSome_some,Option.getD_some,decide_true,Bool.not_true,Bool.and_false,Bool.false_eq_true,if_false];have:=AK l (P++[o]) (kW m o.1 o) ⟨λk=>?_,(D_ _ _ _).1 h.mx,?_,?_⟩
    ·grind
    ·rw[Ot,h.oN];unfold qx at ao ⊢;grind
    ·intro a ba b W vV;simp only[List.mem_append,List.mem_singleton]at ba W;exact h.AJ a (ba.elim id λe=>e ▸ af) b (W.elim id λe=>e ▸ af) vV
    ·have hm:o.1∈je m:=Xm.2 (by rw[h.oN,ao];rfl);have aj:(je (kW m o.1 o)).length<=(je m).length:=by
      have E:=(D_ o.1 o m).1 h.mx;have U:je (kW m o.1 o) ⊆ je m:=λx ah=>by
       rcases ((D_ o.1 o m).2 x).1 ah with ah | ah
       ·exact ah
       ·exact ah ▸ hm
      exact E.length_le_of_subset U
     have:=h.D';simp only[je,List.length_map]at aj;grind
   ·simp only[Option.isSome_some,Option.getD_some,he,decide_false,Bool.not_false,Bool.and_self,if_true];refine⟨λaA=>absurd (aA o (by grind) s (by simp) G) he,λ_=>trivial⟩
  | none=>
   simp only[Option.isSome_none,Bool.false_and,Bool.false_eq_true,if_false];have:=AK l (P++[s]) (kW m s.1 s) ⟨λk=>?_,(D_ _ _ _).1 h.mx,?_,?_⟩
   ·grind
   ·rw[Ot,h.oN];have ri:=ao;unfold qx at ao ⊢;grind
   ·have ao:=alJ ao;intro a ba b W vV;simp only[List.mem_append,List.mem_singleton]at ba W;rcases ba with ba | rfl<;>rcases W with W | rfl
    ·exact h.AJ a ba b W vV
    ·exact absurd vV (ao a ba)
    ·exact absurd vV.symm (ao b W)
    ·rfl
   ·have:=Xl s.1 s m;have:=h.D';grind
theorem AL(l:List a_):k0 l=false<->AI l:=by
 unfold k0 uo;rw[<-Bool.not_eq_true,List.any_eq_true];constructor
 ·intro h a ba b W vV;obtain⟨i,G,rfl⟩:=List.mem_iff_getElem.1 ba;obtain⟨k,al,rfl⟩:=List.mem_iff_getElem.1 W;by_cases he:l[i]=l[k]
  ·exact he
  ·exfalso;have eN:i≠k:=λe=>he (by grind);rcases Nat.lt_or_gt_of_ne eN with cb | cb
   ·refine h ⟨k,by grind,List.any_eq_true.2 ⟨i,by grind,?_⟩⟩;grind
   ·refine h ⟨i,by grind,List.any_eq_true.2 ⟨k,by grind,?_⟩⟩;grind
 ·rintro h ⟨i,G,al⟩;obtain⟨k,al,hc⟩:=List.any_eq_true.1 al;simp only[List.mem_range]at G al;rw[sT G,sT (by omega:k<l.length)]at hc;simp only[Bool.and_eq_true,decide_eq_true_eq,Bool.not_eq_true',decide_eq_false_iff_not]at hc;exact hc.2 (h _ (List.getElem_mem _) _ (List.getElem_mem _) hc.1)
theorem alK{l:List a_}:k0 l=true<->¬AI l:=by rw[<-AL];simp
theorem Xo{l:List a_}{m:List (Int×a_)}(h:uu l m)(hid:∀ s∈l,b3 s.1 0 99=true):(ft hq (je m)).map (λk=>(jx m k).getD jw)=gX l:=by
 have aw:ft hq (je m)=(eh 0 99).filter λk=>(qx l k).isSome:=by
  refine AD ?_ ?_
  ·refine List.Pairwise.filter _ ?_;unfold eh;rw[List.pairwise_map];exact (List.pairwise_lt_range).imp λh=>by omega
  ·refine (List.perm_ext_iff_of_nodup h.mx ?_).2 λk=>?_
   ·refine List.Pairwise.filter _ ?_;unfold eh;rw[List.pairwise_map];exact (List.pairwise_lt_range).imp λh=>by omega
   ·rw[Xm,h.oN,List.mem_filter,sI];refine⟨λaD=>⟨?_,aD⟩,λaD=>aD.2⟩;obtain⟨s,aD⟩:=Option.isSome_iff_exists.1 aD;obtain⟨E,U⟩:=Xn aD;exact U ▸ oR.1 (hid s E)
 rw[aw];unfold gX;have:∀ L:z1',(L.filter λk=>(qx l k).isSome).map (λk=>(jx m k).getD jw)=L.filterMap λid=>l.find? λs=>s.1 == id:=by
  intro L;induction L with
  | nil=>rfl
  | cons k L aJ=>
   rw[List.filter_cons,List.filterMap_cons];have e:(l.find? λs=>s.1 == k)=qx l k:=rfl;rw[e];cases ao:qx l k with
   | none=>grind
   | some s=>
    have h':(jx m k).getD jw=s:=by rw[h.oN,ao];rfl
    grind
 grind
theorem alL{l:List a_}{m:List (Int×a_)}(h:uu l m)(hid:∀ s∈l,b3 s.1 0 99=true):(gX l).length<=l.length:=by
 rw[<-Xo h hid,List.length_map,HU,je,List.length_map];exact h.D'
theorem Xp{aI:Type}{r:aI}{fin:List (Int×a_)->aI}:∀ (l:List a_) (m:List (Int×a_)),eY (λs m=>if ((jx m s.1).isSome&&!decide ((jx m s.1).getD jw=s))=true then .done r else .next (kW m s.1 s)) fin l m=match rA l m with | none=>r | some dx=>fin dx
 | [],m=>rfl
 | s::l,m=>by
  simp only[eY,rA];by_cases h:((jx m s.1).isSome&&!decide ((jx m s.1).getD jw=s))=true
  ·grind
  ·simp only[h,Bool.false_eq_true,if_false];exact Xp l _
def vW(l:List a_):Prop:=l.length<=24/\∀ s∈l,b3 s.1 0 99=true
abbrev AM:aK:=⟨.slice ho,.ay (.slice ho) .bool,vW,λl=>if k0 l=true then ([],false) else (gX l,true)⟩
theorem alM{m:List (Int×a_)}{yc:z1'}{aI:Type}(h:yc.length<=24) :
 A.loop (λ(D:z1'×Int×Int×List a_×List (Int×a_)×Unit)=>if decide (D.2.2.1<D.2.1)=true then A.ab (0<=D.2.2.1/\D.2.2.1<Int.ofNat (List.length D.1)) (A.ab (bP
 (Add.add (List.length D.2.2.2.1) (Add.add 0 1))) (A.pure (V.next (D.1,D.2.1,IntKind.wrap .i64 (Add.add D.2.2.1 1),D.2.2.2.1++[Option.getD
 (Option.map (λx=>x.2) (List.find? (λp=>decide (List.getD D.1 (Int.toNat D.2.2.1) 0=p.1)) D.2.2.2.2.1)) (0,0,0,0,0,0)],D.2.2.2.2.1,())))) else A.bind (A.pure (V.next (D.2.2.2.1,()))) λr=>A.pure (V.done r)) (yc,Int.ofNat (List.length yc),0,[],m,())=A.pure (V.next (yc.map (λk=>(jx m k).getD jw),()):V (List a_×Unit) aI):=by
 rw[A.f_ yc (λi (b:List a_)=>(yc,(yc.length:Int),(i:Int),b,m,())) (λk b=>.next (b++[(jx m k).getD jw])) (λb=>.next (b,())) (λi b=>b.length=i) [] ?_ ?_ ?_ ?_]
 ·rw[dP,uj];rfl
 ·rfl
 ·rfl
 ·intro i G b W;have hw:=bz (n:=(i:Int)+1) (by omega) (by omega);refine⟨?_,λbe db=>?_⟩
  ·simp only[bV,cU G,if_true,df G,cM G,A.bp,ch,hw];rw[A.bt (gb (by grind))];rfl
  grind
 simp
def sU{gC:Type}(R:A gC):List a_×Int×Int×List (Int×a_)×Unit->A (V (List a_×Int×Int×List (Int×a_)×Unit) (V (List (Int×a_)×Unit) gC)):=λ(D:List a_×Int×Int×List (Int×a_)×Unit)=>if decide (D.2.2.1<D.2.1)=true then A.ab (0<=D.2.2.1/\D.2.2.1 <
 Int.ofNat (List.length D.1)) (if (Option.isSome (Option.map (λx=>x.2) (List.find? (λp=>decide ((List.getD D.1 (Int.toNat D.2.2.1) (0,0,0,0,0,0)).1=p.1)) D.2.2.2.1))&&!(decide ((Option.getD (Option.map (λx=>x.2) (List.find? (λp=>decide ((List.getD D.1 (Int.toNat D.2.2.1)
 (0,0,0,0,0,0)).1=p.1)) D.2.2.2.1)) (0,0,0,0,0,0)).1=(List.getD D.1 (Int.toNat D.2.2.1) (0,0,0,0,0,0)).1)&&(decide ((Option.getD
 (Option.map (λx=>x.2) (List.find? (λp=>decide ((List.getD D.1 (Int.toNat D.2.2.1) (0,0,0,0,0,0)).1=p.1)) D.2.2.2.1)) (0,0,0,0,0,0)).2.1=(List.getD D.1 (Int.toNat D.2.2.1) (0,0,0,0,0,0)).2.1)&&(decide ((Option.getD (Option.map (λx=>x.2) (List.find? (λp=>
 decide ((List.getD D.1 (Int.toNat D.2.2.1) (0,0,0,0,0,0)).1=p.1)) D.2.2.2.1)) (0,0,0,0,0,0)).2.2.1=(List.getD D.1 (Int.toNat D.2.2.1)
 (0,0,0,0,0,0)).2.2.1)&&(decide ((Option.getD (Option.map (λx=>x.2) (List.find? (λp=>decide ((List.getD D.1 (Int.toNat D.2.2.1) (0,0,0,0,0,0)).1=p.1)) D.2.2.2.1)) (0,0,0,0,0,0)).2.2.2.1=(List.getD D.1 (Int.toNat D.2.2.1) (0,0,0,0,0,0)).2.2.2.1)&&(decide
 ((Option.getD (Option.map (λx=>x.2) (List.find? (λp=>decide ((List.getD D.1 (Int.toNat D.2.2.1) (0,0,0,0,0,0)).1=p.1)) D.2.2.2.1))
 (0,0,0,0,0,0)).2.2.2.2.1=(List.getD D.1 (Int.toNat D.2.2.1) (0,0,0,0,0,0)).2.2.2.2.1)&&decide ((Option.getD (Option.map (λx=>x.2)
 (List.find? (λp=>decide ((List.getD D.1 (Int.toNat D.2.2.1) (0,0,0,0,0,0)).1=p.1)) D.2.2.2.1)) (0,0,0,0,0,0)).2.2.2.2.2=(List.getD
 D.1 (Int.toNat D.2.2.1) (0,0,0,0,0,0)).2.2.2.2.2)))))))=true then A.bind (A.bind R λr=>A.pure (V.done r)) λr=>
 A.pure (V.done r) else A.pure (V.next (D.1,D.2.1,IntKind.wrap .i64 (Add.add D.2.2.1 1),kW D.2.2.2.1 (List.getD D.1 (Int.toNat D.2.2.1)
 (0,0,0,0,0,0)).1 (List.getD D.1 (Int.toNat D.2.2.1) (0,0,0,0,0,0)),()))) else A.bind (A.pure (V.next (D.2.2.2.1,()))) λr=>A.pure
 (V.done r)
theorem Xq{gC:Type}{R:A gC}{l:List a_}(aj:l.length<=24){i:Nat}(G:i<l.length)(m:List (Int×a_)):sU R (l,(l.length:Int),(i:Int),m,())=if ((jx m l[i].1).isSome&&!decide ((jx m l[i].1).getD jw=l[i]))=true then A.bind (A.bind R λr=>A.pure (V.done r)) λr=>A.pure (V.done r) else A.pure (.next (l,(l.length:Int),((i+1:Nat):Int),kW m l[i].1 l[i],())):=by
 have hw:=bz (n:=(i:Int)+1) (by omega) (by omega);have es:=W6 ((jx m l[i].1).getD jw) l[i];unfold sU;simp only[bV,cU G,if_true,df G,cM G,A.bp,ch,hw];rw[show (Option.map (λx=>x.2) (List.find? (λp=>decide (l[i].1=p.1)) m))=jx m l[i].1 from rfl];grind
theorem Xr{gC:Type}{R:A gC}{l:List a_}(m:List (Int×a_)):sU R (l,(l.length:Int),(l.length:Int),m,())=A.pure (.done (.next (m,()))):=by
 unfold sU;simp
def AN{gC:Type}(k:List a_->A gC):List (Int×a_)×Unit->A gC:=λ(D:List (Int×a_)×Unit)=>A.bind (A.bind
 (yb.sh D.1) λy=>A.bind (sP.sh y) λy=>A.loop (λ(D:z1'×Int×Int×List a_×
 List (Int×a_)×Unit)=>if decide (D.2.2.1<D.2.1)=true then A.ab (0<=D.2.2.1/\D.2.2.1<Int.ofNat (List.length D.1)) (A.ab (bP
 (Add.add (List.length D.2.2.2.1) (Add.add 0 1))) (A.pure (V.next (D.1,D.2.1,IntKind.wrap .i64 (Add.add D.2.2.1 1),D.2.2.2.1++[Option.getD
 (Option.map (λx=>x.2) (List.find? (λp=>decide (List.getD D.1 (Int.toNat D.2.2.1) 0=p.1)) D.2.2.2.2.1)) (0,0,0,0,0,0)],D.2.2.2.2.1,())))) else A.bind (A.pure (V.next (D.2.2.2.1,()))) λr=>A.pure (V.done r)) (y,Int.ofNat (List.length y),0,[],D.1,())) (V.bx λ(D
 : List a_×Unit)=>k D.1)
theorem alN{l:List a_}{m:List (Int×a_)}(eA:uu l m)(hid:vW l){gC:Type}(k:List a_->A gC):AN k (m,())=k (gX l):=by
 obtain⟨aj,hid⟩:=hid;have an:sP.pre (jR (some m)):=Xh (by have:=eA.D';omega);have e:sP.sh (jR (some m))=A.pure (ft hq (je m)):=by
  refine (A.bR an _).trans (congrArg A.pure ?_);exact Xi
 unfold AN;show A.bind (A.bind (yb.sh m) _) _=_;rw[show yb.sh m=A.pure (jR (some m)) from rfl,A.aF,e,A.aF,alM (by rw[HU,je,List.length_map];have:=eA.D';omega),A.aF,A.bY,Xo eA hid]
theorem Xs(l:List a_)(h:vW l)(hc:k0 l=false){gC:Type}(k:List a_->A gC)(R:A gC) :
  A.bind (A.loop (sU R) (l,Int.ofNat (List.length l),0,[],())) (V.bx (AN k))=k (gX l):=by
 have aA:=(AL l).1 hc;obtain⟨E,_⟩:=AK l [] [] .nil;rw[List.nil_append]at E;obtain⟨m,hm,eA⟩:=E aA;have key:A.loop (sU R) (l,Int.ofNat (List.length l),0,[],())=A.pure (.next (m,())):=by
  have gen:∀ (k:Nat) (i:Nat) (dx:List (Int×a_)),l.length - i=k->i<=l.length->rA (l.drop i) dx=some m->uu (l.take i) dx->A.loop (sU R) (l,(l.length:Int),(i:Int),dx,())=A.pure (.next (m,())):=by
   intro k;induction k with
   | zero=>
    intro i dx al G af _;have:i=l.length:=by omega
    subst this;rw[List.drop_length]at af;simp only[rA,Option.some.injEq]at af;subst af;exact A.rZ (Xr _)
   | succ k aJ=>
    intro i dx al G af M4;have G:i<l.length:=by omega
    rw[List.drop_eq_getElem_cons G]at af;unfold rA at af;split at af
    ·cases af
    ·rename_i FY;refine (A.yY ((Xq h.1 G dx).trans (if_neg FY))).trans ?_;refine aJ (i+1) _ (by omega) G af ?_;obtain⟨g1,_⟩:=AK [l[i]] (l.take i) dx M4;have pD:l.take i++[l[i]]=l.take (i+1):=by simp
     rw[pD]at g1;obtain⟨ayq,aw,aN⟩:=g1 λa ba b W=>aA a (List.mem_of_mem_take ba) b (List.mem_of_mem_take W);unfold rA at aw;rw[if_neg FY]at aw;simp only[rA,Option.some.injEq]at aw;grind
  exact gen l.length 0 [] rfl (Nat.zero_le _) hm .nil
 rw[key,A.aF,A.bY,alN eA h]
theorem alO(l:List a_)(h:vW l)(hc:k0 l=true){gC:Type}(k:List a_->A gC)(r:gC) :
  A.bind (A.loop (sU (A.pure r)) (l,Int.ofNat (List.length l),0,[],())) (V.bx (AN k))=A.pure r:=by
 rw[A.dt l (λi (m:List (Int×a_))=>(l,(l.length:Int),(i:Int),m,())) (λs m=>if ((jx m s.1).isSome&&!decide ((jx m s.1).getD jw=s))=true then (.done (.done r):V (List (Int×a_)) (V (List (Int×a_)×Unit) _)) else .next (kW m s.1 s)) (λm=>.next (m,())) [] ?_ ?_ ?_]
 ·rw[Xp];obtain⟨_,U⟩:=AK l [] [] .nil;rw[U (alK.1 hc)];simp
 ·rfl
 ·intro i G m;rw[Xq h.1 G m,A.aF,A.aF];exact Vm (mk:=λ(m:List (Int×a_))=>(l,(l.length:Int),((i+1:Nat):Int),m,()))
 ·intro m;exact Xr m
theorem alP(x):A.le (akJ sP.sh yb.sh x) (AM.sh x):=A.bq λh=>by
 show A.bind (A.loop (sU (A.pure ([],false))) (x,Int.ofNat (List.length x),0,[],())) (V.bx (AN λa=>A.pure (a,true)))=A.pure (if k0 x=true then ([],false) else (gX x,true));cases hc:k0 x with
 | true=>exact alO x h hc _ _
 | false=>exact Xs x h hc _ _
def H0(x:List a_×Unit):A (Bool×List a_×Unit):=A.dR (vW x.1/\k0 x.1=false) (true,gX x.1,())
theorem alQ(x):A.le (akW sP.sh yb.sh x) (H0 x):=A.bq λh=>by
 show A.bind (A.loop (sU (A.pure (false,[],()))) (x.1,Int.ofNat (List.length x.1),0,[],())) (V.bx (AN λa=>A.pure (true,a,())))=_;exact Xs x.1 h.1 h.2 _ _
theorem H2{c:aZ}(h:jS c=true):vW c.2.1:=by
 unfold jS sR at h;simp only[Bool.and_eq_true,List.all_eq_true,Bool.not_eq_true',Bool.or_eq_false_iff,decide_eq_false_iff_not]at h;obtain⟨⟨⟨⟨⟨bk,_⟩,_⟩,U⟩,_⟩,_⟩:=h;refine⟨by omega,λs aD=>?_⟩;have:=U s aD;unfold lA at this;grind
theorem alR(x):A.le (We vU.sh AM.sh x) (hr.sh x):=A.bq λh=>by
 unfold We;show _=A.pure (cw x);rw[show vU.sh x=A.pure (jS x) from A.bR h _];unfold cw;cases hc:jS x with
 | false=>simp
 | true=>
  simp only[A.aF,Bool.not_true,Bool.false_eq_true,if_false,if_true];rw[show AM.sh x.2.1=A.pure (if k0 x.2.1=true then ([],false) else (gX x.2.1,true)) from A.bR (H2 hc) _];cases k0 x.2.1<;>simp
def H3(x:(a_->A Bool)×List a_×Unit):A ((Nat×Nat)×List a_×Unit):=A.dR (x.2.1.length<2 ^ 63/\∀ y∈x.2.1,∃ b,x.1 y=A.pure b)
 ((0,(x.2.1.filter λs=>!(x.1 s).val false).length),(x.2.1.filter λs=>!(x.1 s).val false)++List.replicate (x.2.1.length - (x.2.1.filter λs=>!(x.1 s).val false).length) jw,())
theorem Xt{ak:Type}(p:ak->Bool):∀ (l:List ak) (i:Int),(l.any p=true->∃ k:Nat,∃ h:k<l.length,hN p l i=i+k/\p l[k]=true/\(∀ y∈l.take k,p y=false))
 | [],i,h=>by grind
 | x::l,i,h=>by
  unfold hN;by_cases ah:p x=true
  ·grind
  ·have nL:p x=false:=by grind
   simp only[List.any_cons,nL,Bool.false_or]at h;obtain⟨k,al,E,U,ag⟩:=Xt p l (i+1) h;refine⟨k+1,by grind,by grind,by grind,?_⟩;grind
theorem alS(x):A.le (WW (kZ ho).sh x) (H3 x):=A.bq λh=>by
 obtain⟨f,l,u⟩:=x;obtain⟨E,U⟩:=h;change l.length<2 ^ 63 at E;change ∀ y∈l,∃ b,f y=A.pure b at U;unfold WW;rw[show (kZ ho).sh (l,f)=A.pure (hN (λy=>(f y).val false) l 0) from A.bR ⟨E,U⟩ _];rw[A.aF];by_cases ba:(l.any λy=>(f y).val false)=true
 ·obtain⟨k,al,aw,aN,cE⟩:=Xt (λy=>(f y).val false) l 0 ba;have hw:=bz (n:=(k:Int)+1) (by omega) (by omega);have eN:¬(decide ((0:Int)+k=-1)=true):=by simp
  rw[aw,if_neg eN];generalize br:(λs=>!(f s).val false)=q at *
  have alT:∀ s,(!(f s).val false)=q s:=λs=>by grind
  have pD:l.take k=(l.take k).filter q:=by
   rw[List.filter_eq_self.2];grind
  have HW:(l.take (k+1)).filter q=l.take k:=by
   rw[List.take_add_one,List.getElem?_eq_getElem al,Option.toList_some,List.filter_append,<-pD];grind
  rw[A.dt (l.drop (k+1)) (λi (_:Unit)=>(f,(((l.take (k+1+i)).filter q).length:Int),((k+1+i:Nat):Int),(l.take (k+1+i)).filter q++l.drop ((l.take (k+1+i)).filter q).length,())) (λ_ u=>.next u) (λ_=>.next (((l.filter q).length:Int),l.filter q++l.drop (l.filter q).length,())) () ?_ ?_ ?_]
  ·rw[dP];have hlen:(l.filter q).length<=l.length:=List.length_filter_le _ _;have gv:(l.filter q++l.drop (l.filter q).length).length=l.length:=by grind
   simp only[A.aF,A.bY,bV,gv];rw[A.bt (by omega)];simp only[A.bp,Int.toNat_natCast];have Ea:List.take (l.filter q).length (l.filter q++l.drop (l.filter q).length)=l.filter q:=List.take_left;rw[Ea];refine (A.bt ⟨by omega,by omega,by grind⟩ _).trans ?_;refine congrArg A.pure (Prod.ext rfl (Prod.ext ?_ rfl));show (_++_++_:List a_)=_;exact (congrArg (λz=>_++z) (List.drop_eq_nil_iff.2 (by simp))).trans (List.append_nil _)
  ·show (f,(0:Int)+k,IntKind.wrap .i64 (Add.add ((0:Int)+k) 1),l,())=_;rw[Int.zero_add,ch,hw];refine Prod.ext rfl (Prod.ext ?_ (Prod.ext ?_ (Prod.ext ?_ rfl)))
   ·grind
   ·rfl
   ·show l=(l.take (k+1+0)).filter q++l.drop ((l.take (k+1+0)).filter q).length;rw[Nat.add_zero,HW,List.length_take,Nat.min_eq_left (by omega),List.take_append_drop]
  ·intro i G _;have G:k+1+i<l.length:=by grind
   have hle:((l.take (k+1+i)).filter q).length<=k+i:=by
    have E:=List.length_filter_le q (l.drop (k+1) |>.take i);rw[List.take_add,List.filter_append,List.length_append,HW];grind
   have cb:((l.take (k+1+i)).filter q).length<l.length:=by omega
   have kR:((l.take (k+1+i)).filter q++l.drop ((l.take (k+1+i)).filter q).length).length=l.length:=by grind
   have hw:=bz (n:=((k+1+i:Nat):Int)+1) (by omega) (by omega);have gW:=bz (n:=(((l.take (k+1+i)).filter q).length:Int)+1) (by omega) (by omega);have dz:k+1+i<((l.take (k+1+i)).filter q++l.drop ((l.take (k+1+i)).filter q).length).length:=by omega
   have Cj:((l.take (k+1+i)).filter q).length<((l.take (k+1+i)).filter q++l.drop ((l.take (k+1+i)).filter q).length).length:=by omega
   have jv:((l.take (k+1+i)).filter q++l.drop ((l.take (k+1+i)).filter q).length)[k+1+i]=l[k+1+i]:=by
    rw[List.getElem_append_right (by omega),List.getElem_drop];congr 1;omega
   obtain⟨b,W⟩:=U _ (List.getElem_mem G);have ae:q l[k+1+i]=!b:=by rw[<-alT,W,A.fB]
   have pD:(l.take (k+1+(i+1))).filter q=(l.take (k+1+i)).filter q++(if (!b)=true then [l[k+1+i]] else []):=by
    rw[show k+1+(i+1)=k+1+i+1 from rfl,List.take_add_one,List.getElem?_eq_getElem G,Option.toList_some,List.filter_append,List.filter_cons,ae,List.filter_nil]
   simp only[bV,cU dz,if_true,df dz,cM dz,cM Cj,A.bp,jv,W,A.aF,ch,gW];simp only[Int.toNat_natCast];cases b with
   | true=>
    simp only[Bool.not_true,Bool.false_eq_true,if_false,A.aF,A.bY,hw,V.hl,List.append_nil]at pD ⊢;grind
   | false=>
    simp only[Bool.not_false,if_true,A.aF,A.bY,hw,V.hl]at pD ⊢;have es:(List.filter q (List.take (k+1+i) l)++List.drop (List.filter q (List.take (k+1+i) l)).length l).set (List.filter q (List.take (k+1+i) l)).length l[k+1+i]=(l.take (k+1+(i+1))).filter q++l.drop ((l.take (k+1+(i+1))).filter q).length:=by
     rw[pD,List.set_append_right _ _ (Nat.le_refl _),Nat.sub_self,List.drop_eq_getElem_cons cb,List.set_cons_zero];simp
    rw[es];have Mw:(((l.take (k+1+i)).filter q).length:Int)+1=(((l.take (k+1+(i+1))).filter q).length:Int):=by grind
    grind
  ·intro _;have aj:(l.drop (k+1)).length=l.length - (k+1):=by simp
   have bG:k+1+(l.drop (k+1)).length=l.length:=by omega
   have hle:(l.filter q).length<=l.length:=List.length_filter_le _ _;simp only[bG,List.take_length];rw[if_neg (by grind),A.aF]
 ·rw[D7 _ _ ba];have:(l.filter λs=>!(f s).val false)=l:=by
   simp_all
  simp only[decide_true,if_true,this,Nat.sub_self,List.replicate_zero,List.append_nil]
abbrev bG:bA:=((0,0,0,0,0,0),0)
def oT(c:aZ)(w:z1')(u:Int):List bA:=((fu c).filter λs=>decide (um s=u)).map λs=>(s,x_ s+w.getD (pA s).toNat 0)
def b7(c:aZ)(w:z1')(u:Int):List bA:=ft hY (oT c w u)
def qy(l:List bA)(i:Nat):Bool:=!(decide (0<i)&&decide ((l.getD i bG).2=(l.getD (i - 1) bG).2))&&decide (eo (l.getD i bG).1=1+((i % 2:Nat):Int))
def eD(l:List bA):Bool:=(List.range l.length).all (qy l)
structure gY(c:aZ):Prop where
 Ou:cw c=0
 eb:c.1.length<=3
 ee:c.2.1.length<=12
 jl:c.2.2.1.length<=12
 n4:c.2.2.2.1.length<=4
 iZ:jS c=true
 AJ:AI c.2.1
 Ov:pB c.2.2.2.2=true
 clk:∀ s∈c.1,-30<=s.1/\s.1<=s.2/\s.2<=30
 jf:∀ s∈c.2.1,lA c.1.length s=true
 iy:AH c.2.2.2.1=true
theorem oU{c:aZ}(h:cw c=0):gY c:=by
 have aX:=h;unfold cw at h;split at h
 ·rename_i hc;split at h
  ·omega
  ·rename_i aA;have lT:=hc;unfold jS sR at hc;simp only[Bool.and_eq_true,List.all_eq_true,Bool.not_eq_true',Bool.or_eq_false_iff,decide_eq_false_iff_not]at hc;obtain⟨⟨⟨⟨⟨⟨⟨⟨b8,a2⟩,a3⟩,a4⟩,a5⟩,fG⟩,fH⟩,hZ⟩,a9⟩:=hc;refine⟨aX,by omega,by omega,by omega,by omega,lT,(AL _).1 (by grind),a5,λs aD=>?_,fH,a9⟩;have:=fG s aD;unfold sQ at this;simp only[Bool.and_eq_true,Bool.not_eq_true',decide_eq_false_iff_not,oR]at this;omega
 omega
theorem AO{n:Nat}{s:a_}:lA n s=true<->(0<=lz s/\lz s<=99)/\(0<=pA s/\pA s<=(n:Int) - 1)/\(0<=x_ s/\x_ s<=9999)/\(0<=um s/\um s<=9)/\(0<=iO s/\iO s<=99)/\(eo s=1\/eo s=2/\iO s=0):=by
 unfold lA;simp only[Bool.and_eq_true,oR,Bool.or_eq_true,decide_eq_true_eq,and_assoc]
theorem gY.alU{c:aZ}(h:gY c):∃ m,uu c.2.1 m:=by
 obtain⟨E,_⟩:=AK c.2.1 [] [] .nil;rw[List.nil_append]at E;obtain⟨m,_,eA⟩:=E h.AJ;grind
theorem gY.Ow{c:aZ}(h:gY c):(fu c).length<=12:=by
 obtain⟨m,eA⟩:=h.alU;have E:=alL eA (H2 h.iZ).2;have U:=List.length_filter_le (λs:a_=>!c.2.2.1.contains s.1) (gX c.2.1);have:=h.ee;unfold fu;omega
theorem Eb{l:List a_}{s:a_}(h:s∈gX l):s∈l:=by
 unfold gX at h;grind
theorem alV{c:aZ}{s:a_}(h:s∈fu c):s∈c.2.1:=Eb (List.mem_filter.1 h).1
theorem gY.AP{c:aZ}(h:gY c){s:a_}(aD:s∈fu c):lA c.1.length s=true:=h.jf s (alV aD)
def pE(c:aZ)(w:z1'):Prop:=w.length=c.1.length/\∀ n∈w,-30<=n/\n<=30
theorem pE.at{c:aZ}{w:z1'}(h:pE c w)(aB:gY c){s:a_}(aD:s∈fu c):0<=pA s/\pA s<(w.length:Int)/\-30<=w.getD (pA s).toNat 0/\w.getD (pA s).toNat 0<=30:=by
 have E:=(AO.1 (aB.AP aD)).2.1;have aj:pA s<(w.length:Int):=by rw[h.1];omega
 exact⟨E.1,aj,h.2 _ (x1 E.1 aj)⟩
theorem Ec{c:aZ}(h:gY c)(w:z1')(u:Int):(b7 c w u).length<=12:=by
 unfold b7 oT;rw[HU,List.length_map];exact Nat.le_trans (List.length_filter_le _ _) h.Ow
theorem Ed{c:aZ}{w:z1'}{u:Int}{e:bA}(h:e∈b7 c w u):e.1∈fu c/\um e.1=u/\e.2=x_ e.1+w.getD (pA e.1).toNat 0:=by
 unfold b7 at h;rw[W']at h;unfold oT at h;grind
theorem Xu(i:Nat):Int.tmod (i:Int) 2=((i % 2:Nat):Int):=by
 rfl
theorem alW(l:List bA)(i:Nat):(decide ((i:Int) > 0)&&decide ((l.getD i bG).2=(l.getD (i - 1) bG).2)||decide (eo (l.getD i bG).1≠1+((i % 2:Nat):Int)))=!qy l i:=by
 unfold qy;simp
def kj(a b:Int)(s:Int×Int):Int:=max 0 (min (b - 1) s.2 - max a s.1+1)
def l6(cl:z4')(a b:Int):Int:=cl.foldl (λn s=>n - kj a b s) (b - a)
def Xv(cl:z4'):Prop:=cl.length<=4/\∀ s∈cl,0<=s.1/\s.1<=s.2/\s.2<=9999
theorem gY.Ox{c:aZ}(h:gY c):Xv c.2.2.2.1:=by
 refine⟨h.n4,λs aD=>?_⟩;have:=h.iy;unfold AH at this;rw[List.all_eq_true]at this;obtain⟨i,G,rfl⟩:=List.mem_iff_getElem.1 aD;have:=this i (by grind);unfold iP at this;rw[sT G]at this;simp only[Bool.and_eq_true,oR,Bool.not_eq_true',decide_eq_false_iff_not]at this;omega
abbrev AQ(x:aZ×Int×Int):Prop:=Xv x.1.2.2.2.1/\-100<=x.2.1/\x.2.1<=x.2.2/\x.2.2<=11000
theorem alX{a b:Int}{s:Int×Int}(ba:-100<=a)(W:b<=11000)(aD:0<=s.1/\s.1<=s.2/\s.2<=9999):0<=kj a b s/\kj a b s<=20000:=by
 unfold kj;omega
theorem Xw{n:Int}:(if n > 0 then n else 0)=max 0 n:=by omega
theorem Xx{a b:Int}:(if a<b then a else b)=min b a:=by omega
theorem alY{a b:Int}:(if a<b then a else b)=min a b:=by omega
theorem alZ{a b:Int}:(if a > b then a else b)=max b a:=by omega
theorem al0{a b:Int}:(if a > b then a else b)=max a b:=by omega
abbrev vY:aK:=⟨.ay iN (.ay bu bu),bu,AQ,λx=>l6 x.1.2.2.2.1 x.2.1 x.2.2⟩
theorem al1(x):A.le (WB x) (vY.sh x):=A.bq λh=>by
 obtain⟨c,a,b⟩:=x;obtain⟨⟨E,U⟩,ag,a1,bL⟩:=h;change -100<=a at ag;change a<=b at a1;change b<=11000 at bL;change c.2.2.2.1.length<=4 at E;change ∀ s∈c.2.2.2.1,_ at U;unfold WB;have Ai:=bz (n:=b - a) (by omega) (by omega);rw[A.f_ c.2.2.2.1 (λi (n:Int)=>(a,b,n,c.2.2.2.1,(c.2.2.2.1.length:Int),(i:Int),())) (λs n=>.next (n - kj a b s)) (λn=>.next (n,())) (λi n=>-(20000*(i:Int))<=n/\n<=20000) (b - a) ?_ ?_ ?_ ?_]
 ·rw[dP,A.aF];rfl
 ·grind
 ·omega
 ·intro i G n aA;have aD:=U _ (List.getElem_mem G);have hc:=alX (a:=a) (b:=b) ag bL aD;have hw:=bz (n:=(i:Int)+1) (by omega) (by omega);refine⟨?_,λbe db=>?_⟩
  ·simp only[Prod.c_,bV,cU G,if_true,df G,cM G,A.bp,ch,hw];have cn:=bz (n:=b - 1) (by omega) (by omega);have c7:=bz (n:=min (b - 1) c.2.2.2.1[i].2 - max a c.2.2.2.1[i].1) (by omega) (by omega);have eW:=bz (n:=min (b - 1) c.2.2.2.1[i].2 - max a c.2.2.2.1[i].1+1) (by omega) (by omega);have AR:=bz (n:=n - kj a b c.2.2.2.1[i]) (by omega) (by omega);simp only[cn,alY,al0,c7,eW,Xw];rw[show max (min (b - 1) c.2.2.2.1[i].2 - max a c.2.2.2.1[i].1+1) 0=kj a b c.2.2.2.1[i] from Int.max_comm _ _,AR];rfl
  grind
 simp
def lB(t:py)(m:Int):Int:=if m>=t.2.2.2.2.1 then t.2.2.2.2.2.1 else min t.2.2.2.1 ((max 0 (m - t.1)+t.2.1 - 1) / t.2.1*t.2.2.1)
abbrev yd(x:py×Int):Prop:=pB x.1=true/\-100000<=x.2/\x.2<=20000
abbrev vZ:aK:=⟨.ay Oe bu,bu,yd,λx=>lB x.1 x.2⟩
theorem H4{t:py}:pB t=true<->(0<=t.1/\t.1<=9999)/\(1<=t.2.1/\t.2.1<=9999)/\(1<=t.2.2.2.2.1/\t.2.2.2.2.1<=9999)/\(0<=t.2.2.1/\t.2.2.1<=100000)/\(0<=t.2.2.2.1/\t.2.2.2.1<=100000)/\(0<=t.2.2.2.2.2.1/\t.2.2.2.2.2.1<=100000)/\(0<=t.2.2.2.2.2.2/\t.2.2.2.2.2.2<=100000):=by
 unfold pB;simp only[Bool.and_eq_true,oR,and_assoc]
theorem Xy{t:py}{m:Int}(h:yd (t,m)):0<=(max 0 (m - t.1)+t.2.1 - 1) / t.2.1/\(max 0 (m - t.1)+t.2.1 - 1) / t.2.1<=30000/\0<=(max 0 (m - t.1)+t.2.1 - 1) / t.2.1*t.2.2.1/\(max 0 (m - t.1)+t.2.1 - 1) / t.2.1*t.2.2.1<=3000000000:=by
 obtain⟨E,U,ag⟩:=h;change -100000<=m at U;change m<=20000 at ag;obtain⟨b8,a2,a3,a4,a5,fG,fH⟩:=(H4 (t:=t)).1 E;have dN:0<=(max 0 (m - t.1)+t.2.1 - 1) / t.2.1:=Int.ediv_nonneg (by omega) (by omega);have e0:(max 0 (m - t.1)+t.2.1 - 1) / t.2.1<=max 0 (m - t.1)+t.2.1 - 1:=Int.ediv_le_self _ (by omega);have mJ:(max 0 (m - t.1)+t.2.1 - 1) / t.2.1<=30000:=by omega
 refine⟨dN,mJ,Int.mul_nonneg dN a4.1,?_⟩;calc (max 0 (m - t.1)+t.2.1 - 1) / t.2.1*t.2.2.1<=30000*100000:=Int.mul_le_mul mJ a4.2 a4.1 (by omega)
  _=3000000000:=by decide
theorem al2{t:py}{m:Int}(h:yd (t,m)):0<=lB t m/\lB t m<=100000:=by
 have:=Xy h;obtain⟨E,U,ag⟩:=h;obtain⟨b8,a2,a3,a4,a5,fG,fH⟩:=(H4 (t:=t)).1 E;unfold lB;omega
theorem al3(x):A.le (Wp x) (vZ.sh x):=A.bq λh=>by
 obtain⟨t,m⟩:=x;have hu:=Xy h;obtain⟨E,U,ag⟩:=h;change -100000<=m at U;change m<=20000 at ag;obtain⟨b8,a2,a3,a4,a5,fG,fH⟩:=(H4 (t:=t)).1 E;have cn:=bz (n:=m - t.1) (by omega) (by omega);have c7:=bz (n:=max 0 (m - t.1)+t.2.1) (by omega) (by omega);have eW:=bz (n:=max 0 (m - t.1)+t.2.1 - 1) (by omega) (by omega);have AR:=bz (n:=(max 0 (m - t.1)+t.2.1 - 1) / t.2.1) (by omega) (by omega);have al4:=bz (n:=(max 0 (m - t.1)+t.2.1 - 1) / t.2.1*t.2.2.1) (by omega) (by omega);have Ee:Int.tdiv (max 0 (m - t.1)+t.2.1 - 1) t.2.1=(max 0 (m - t.1)+t.2.1 - 1) / t.2.1:=Int.tdiv_eq_ediv_of_nonneg (by omega);unfold Wp;show _=A.pure (lB t m);unfold lB;simp only[Prod.c_,cn,Xw,ch,c7,eW,Ee,AR,Int.mul_comm t.2.2.1,al4,Xx,decide_eq_true_eq];rw[A.bt (show t.2.1≠0 from by omega)];grind
def gZ(c:aZ)(w:z1')(u:Int):List bA:=if eD (b7 c w u)=true then b7 c w u else []
def ng(l:List bA)(minute:Int):Int×Int:=l.foldl (λb e=>if e.2<=minute then (if eo e.1=2 then (-1,e.2) else (iO e.1,e.2)) else b) (-1,0)
def H5(c:aZ)(w:z1')(minute:Int):Int:=((eh 0 9).foldl (λn u=>if (ng (gZ c w u) minute).1>=0 then n+1 else n) (0:Int))
def uv(l:List bA):List (bA×bA):=l.zip (l.drop 1)
def Ef(cl:z4')(jf:Int)(l:List bA):Option Int:=((uv l).find? λp=>lz p.1.1 == jf&&eo p.1.1 == 1).map λp=>l6 cl p.1.2 p.2.2
def jT(c:aZ)(w:z1')(jf:Int):Option Int:=(eh 0 9).findSome? λu=>Ef c.2.2.2.1 jf (gZ c w u)
theorem al5{l:List bA}{i:Nat}(h:i+1<(ft hY l).length):(ft hY l)[i].2<=(ft hY l)[i+1].2:=by
 have:=List.pairwise_iff_getElem.1 (alr l) i (i+1) (by omega) h (by omega);omega
theorem Eg{c:aZ}(aB:gY c){w:z1'}(U:pE c w){u:Int}{e:bA}(he:e∈b7 c w u):-30<=e.2/\e.2<=10029:=by
 obtain⟨E,_,ag⟩:=Ed he;have aP:=(U.at aB E).2.2;have aR:=(AO.1 (aB.AP E)).2.2.1;omega
theorem AS{c:aZ}{w:z1'}{u:Int}{e:bA}(he:e∈gZ c w u):e∈b7 c w u:=by
 unfold gZ at he;grind
theorem al6{c:aZ}{w:z1'}{u:Int}{i:Nat}(h:i+1<(gZ c w u).length):(gZ c w u)[i].2<=(gZ c w u)[i+1].2:=by
 have key:∀ l,gZ c w u=l->∀ (h:i+1<l.length),l[i].2<=l[i+1].2:=by
  intro l aj h;unfold gZ at aj;split at aj
  ·subst aj;exact al5 h
  grind
 grind
theorem Xz{c:aZ}(aB:gY c){w:z1'}(U:pE c w){u:Int}{i:Nat}(h:i+1<(gZ c w u).length):AQ (c,(gZ c w u)[i].2,(gZ c w u)[i+1].2):=by
 have ag:=Eg aB U (AS (List.getElem_mem (by omega:i<(gZ c w u).length)));have a1:=Eg aB U (AS (List.getElem_mem h));exact⟨aB.Ox,show -100<=(gZ c w u)[i].2 by omega,al6 h,show (gZ c w u)[i+1].2<=11000 by omega⟩
theorem al7{l:List bA}{i:Nat}(h:i<(uv l).length):∃ U:i+1<l.length,(uv l)[i]=(l[i],l[i+1]):=by
 unfold uv at h ⊢;grind
theorem al8{a b:Int}{s:Int×Int}(h:b<=s.1):kj a b s=0:=by unfold kj;omega
def rB:z4'->Prop
 | []=>True
 | s::r=>s.1<=s.2/\(∀ t∈r,s.2<t.1)/\rB r
theorem Oy:∀ (cl:z4') (a b n:Int),cl.foldl (λn s=>n - kj a b s) n=n - (cl.map (kj a b)).sum
 | [],a,b,n=>by simp
 | s::r,a,b,n=>by simp only[List.foldl_cons,List.map_cons,List.sum_cons];rw[Oy r];omega
theorem XA:∀ (cl:z4') (a b:Int),rB cl->a<=b->(cl.map (kj a b)).sum<=b - a
 | [],a,b,_,h=>by grind
 | s::r,a,b,⟨E,U,ag⟩,h=>by
  simp only[List.map_cons,List.sum_cons];by_cases W:s.2+1<=b
  ·have aJ:=XA r (max a (s.2+1)) b ag (by omega);have e:r.map (kj a b)=r.map (kj (max a (s.2+1)) b):=by
    refine List.map_congr_left λt aH=>?_;have:=U t aH;unfold kj;omega
   rw[e];have:kj a b s<=max a (s.2+1) - a:=by unfold kj;omega
   omega
  ·have e:∀ l:z4',(∀ t∈l,b<=t.1)->(l.map (kj a b)).sum=0:=by
    intro l;induction l with
    | nil=>simp
    | cons t l aJ=>
     intro aj;simp only[List.map_cons,List.sum_cons];rw[al8 (aj t (by simp)),aJ λx ah=>aj x (by grind)];rfl
   rw[e r λt aH=>by grind];unfold kj;omega
theorem XB:∀ (cl:z4'),(∀ i,(h:i+1<cl.length)->cl[i].2<cl[i+1].1)->(∀ s∈cl,s.1<=s.2)->rB cl
 | [],_,_=>trivial
 | s::r,h,U=>by
  have M:rB r:=XB r (λi G=>by have:=h (i+1) (by grind);grind) λt aH=>U t (by grind);refine⟨U s (by simp),?_,M⟩;cases r with
  | nil=>simp
  | cons t r=>
   have aX:=h 0 (by simp);simp at aX;intro u hu;rcases List.mem_cons.1 hu with rfl | hu
   ·exact aX
   ·have:=M.2.1 u hu;grind
theorem gY.al9{c:aZ}(h:gY c):rB c.2.2.2.1:=by
 have hc:=h.iy;unfold AH at hc;rw[List.all_eq_true]at hc;refine XB _ (λi G=>?_) λs aD=>(h.Ox.2 s aD).2.1;have:=hc (i+1) (by grind);unfold iP at this;grind
theorem al_{cl:z4'}{a b:Int}(h:rB cl)(vV:a<=b):0<=l6 cl a b:=by
 unfold l6;rw[Oy];have:=XA cl a b h vV;omega
theorem XC:∀ (cl:z4') (a b:Int),0<=(cl.map (kj a b)).sum
 | [],_,_=>by simp
 | s::r,a,b=>by
  simp only[List.map_cons,List.sum_cons];have:=XC r a b;have:0<=kj a b s:=by unfold kj;omega
  omega
theorem al'{cl:z4'}{a b:Int}:l6 cl a b<=b - a:=by
 unfold l6;rw[Oy];have:=XC cl a b;omega
theorem ama{cl:z4'}{jf:Int}{l:List bA}{m:Int}(h:Ef cl jf l=some m):∃ i,∃ G:i+1<l.length,l[i].1.1=jf/\eo l[i].1=1/\m=l6 cl l[i].2 l[i+1].2:=by
 unfold Ef at h;rw[Option.map_eq_some_iff]at h;obtain⟨p,an,rfl⟩:=h;have U:=List.find?_some an;obtain⟨i,G,rfl⟩:=List.mem_iff_getElem.1 (List.mem_of_find?_eq_some an);obtain⟨dz,e⟩:=al7 G;grind
theorem XD{c:aZ}(aB:gY c){w:z1'}(U:pE c w){jf m:Int}(h:jT c w jf=some m):0<=m/\m<=11000:=by
 unfold jT at h;obtain⟨u,_,hu⟩:=List.exists_of_findSome?_eq_some h;obtain⟨i,G,_,_,rfl⟩:=ama hu;have an:=Xz aB U G;have hm:=al_ aB.al9 an.2.2.1;have ag:=Eg aB U (AS (List.getElem_mem (by omega:i<(gZ c w u).length)));have a1:=Eg aB U (AS (List.getElem_mem G));have bL:=@al' c.2.2.2.1 (gZ c w u)[i].2 (gZ c w u)[i+1].2;grind
def H6(c:aZ)(w:z1')(amb:Int):Int:=(fu c).foldl (λn s=>if (eo s=1/\iO s=amb)/\(jT c w (lz s)).isSome=true then n+lB c.2.2.2.2 ((jT c w (lz s)).getD 0) else n) 0
def AT(c:aZ)(jf:Int):Bool:=(fu c).any λs=>lz s == jf&&eo s == 1
def sV(c:aZ)(w:z1'):Bool:=(List.range w.length).all λi=>b3 (w.getD i 0) (c.1.getD i (0,0)).1 (c.1.getD i (0,0)).2
def iQ(c:aZ)(w:z1'):Bool:=decide (w.length=c.1.length)&&sV c w&&(eh 0 9).all λu=>eD (b7 c w u)
theorem XE{c:aZ}(aB:gY c){w:z1'}(aj:w.length=c.1.length)(h:sV c w=true):pE c w:=by
 refine⟨aj,λn aA=>?_⟩;obtain⟨i,G,rfl⟩:=List.mem_iff_getElem.1 aA;unfold sV at h;rw[List.all_eq_true]at h;have E:=h i (by grind);rw[sT G,sT (by omega:i<c.1.length),oR]at E;have:=aB.clk _ (List.getElem_mem (by omega:i<c.1.length));omega
def kk:z4'->Nat
 | []=>1
 | s::r=>(s.2 - s.1+1).toNat*kk r
def nh(c:aZ):z4'->z1'->List (z1')
 | [],w=>if iQ c w=true then [w] else []
 | s::r,w=>(eh s.1 s.2).flatMap λn=>nh c r (w++[n])
theorem Oz{ak β:Type}(f:ak->List β)(k:Nat):∀ (l:List ak),(∀ x∈l,(f x).length<=k)->(l.flatMap f).length<=l.length*k
 | [],_=>by simp
 | x::l,h=>by
  simp only[List.flatMap_cons,List.length_append,List.length_cons];have:=Oz f k l λy aQ=>h y (by grind);grind
theorem OA(c:aZ):∀ (r:z4') (w:z1'),(nh c r w).length<=kk r
 | [],w=>by unfold nh kk;grind
 | s::r,w=>by
  unfold nh kk;have:=Oz (λn=>nh c r (w++[n])) (kk r) (eh s.1 s.2) λn _=>OA c r _;rw[sH]at this;omega
theorem XF{ak β:Type}(f:ak->List β):∀ (l:List ak) (b:List β),l.foldl (λb x=>b++f x) b=b++l.flatMap f
 | [],b=>by simp
 | x::l,b=>by simp only[List.foldl_cons,List.flatMap_cons];rw[XF f l,List.append_assoc]
abbrev cP(c:aZ):List (z1'):=nh c c.1 []
def amc(c:aZ):Prop:=cw c=0->kk c.1<=60
def gI(c:aZ):Prop:=HR c/\amc c
theorem gI.fK{c:aZ}(h:gI c):ix c:=by
 obtain⟨⟨E,U,ag,a1⟩,_⟩:=h;exact⟨by omega,by omega,by omega,by omega⟩
def dM(c:aZ)(b:Bool):List (z1')×Int:=if cw c≠0 then ([],cw c) else if b=false then ([],1) else if cP c=[] then ([],3) else (cP c,0)
theorem OB(c:aZ):∀ (r:z4') (w x:z1'),x∈nh c r w->iQ c x=true
 | [],w,x,h=>by
  unfold nh at h;grind
 | s::r,w,x,h=>by
  unfold nh at h;rw[List.mem_flatMap]at h;obtain⟨n,_,aA⟩:=h;exact OB c r _ x aA
theorem Eh{c:aZ}(h:cw c=0){w:z1'}(hw:iQ c w=true):pE c w:=by
 unfold iQ at hw;simp only[Bool.and_eq_true,decide_eq_true_eq]at hw;exact XE (oU h) hw.1.1 hw.1.2
theorem H7{c:aZ}{w:z1'}(hw:iQ c w=true){u:Int}(hu:0<=u/\u<=9):eD (b7 c w u)=true:=by
 unfold iQ at hw;simp only[Bool.and_eq_true,List.all_eq_true]at hw;exact hw.2 u (sI.2 hu)
theorem amd{c:aZ}{b:Bool}{w:z1'}(h:w∈(dM c b).1):cw c=0/\w∈cP c/\iQ c w=true/\pE c w:=by
 unfold dM at h;split at h
 ·grind
 ·rename_i hc;have hc:cw c=0:=by omega
  split at h
  ·grind
  ·split at h
   ·grind
   ·have:=OB c _ _ _ h;exact⟨hc,h,this,Eh hc this⟩
def H8:Option (Int×Int)->Int->Int×Int
 | none,n=>(n,n)
 | some s,n=>(min s.1 n,max s.2 n)
def ye(l:z1'):Option (Int×Int):=l.foldl (λo n=>some (H8 o n)) none
def uw(l:z1'):Int×Int:=(ye l).getD (0,0)
theorem ame(a b c:Int):cf.sh (a,b,c)=A.pure (b3 a b c):=rfl
def lC(c:aZ)(jf:Int):z1'×Int:=if (dM c (AT c jf)).2≠0 then ([],(dM c (AT c jf)).2) else if (dM c (AT c jf)).1.filterMap (λw=>jT c w jf)=[] then ([],3) else ((dM c (AT c jf)).1.filterMap (λw=>jT c w jf),0)
def H9(c:aZ)(n:Int):(Int×Int)×Int:=(uw (lC c n).1,(lC c n).2)
abbrev H_:aK:=⟨.ay iN bu,.ay mD bu,λx=>gI x.1,λx=>H9 x.1 x.2⟩
def AU(c:aZ)(n:Int):(Int×Int)×Int:=(uw ((lC c n).1.map λm=>lB c.2.2.2.2 m),(lC c n).2)
abbrev AV:aK:=⟨.ay iN bu,.ay mD bu,λx=>gI x.1,λx=>AU x.1 x.2⟩
def Ia(c:aZ)(g:Int):(Int×Int)×Int:=(uw ((dM c (b3 g 0 99)).1.map λw=>H6 c w g),(dM c (b3 g 0 99)).2)
abbrev Ib:aK:=⟨.ay iN bu,.ay mD bu,λx=>gI x.1,λx=>Ia x.1 x.2⟩
def Ic(c:aZ)(t:Int):(Int×Int)×Int:=(uw ((dM c (b3 t 0 9999)).1.map λw=>H5 c w t*c.2.2.2.2.2.2.2.2.2.2),(dM c (b3 t 0 9999)).2)
abbrev Ie:aK:=⟨.ay iN bu,.ay mD bu,λx=>gI x.1,λx=>Ic x.1 x.2⟩
def v7(u t:Int):Bool:=b3 u 0 9&&b3 t 0 9999
def OC(c:aZ)(u t:Int):z1':=(dM c (v7 u t)).1.map λw=>(ng (gZ c w u) t).1
def rC(c:aZ)(u t:Int):z1'×Int:=((eh (-1) 99).filter λg=>(OC c u t).contains g,(dM c (v7 u t)).2)
abbrev If:aK:=⟨.ay iN (.ay bu bu),.ay fE bu,λx=>gI x.1,λx=>rC x.1 x.2.1 x.2.2⟩
def Ei(c:aZ)(w:z1')(u t:Int):Bool:=decide ((ng (gZ c w u) t).1>=0)&&decide (l6 c.2.2.2.1 (ng (gZ c w u) t).2 t>=c.2.2.2.2.2.2.2.2.1)
def oV(c:aZ)(l:List (z1'))(u t:Int):Nat:=(l.filter λw=>Ei c w u t).length
def sW(c:aZ)(t:Int):z1'×z1'×Int:=
 if (dM c (b3 t 0 9999)).2≠0 then ([],[],(dM c (b3 t 0 9999)).2)
 else ((eh 0 9).filter (λu=>decide (oV c (dM c (b3 t 0 9999)).1 u t=(dM c (b3 t 0 9999)).1.length)),(eh 0 9).filter (λu=>decide (oV c (dM c (b3 t 0 9999)).1 u t > 0)),0)
abbrev Ig:aK:=⟨.ay iN bu,.ay fE (.ay fE bu),λx=>gI x.1,λx=>sW x.1 x.2⟩
theorem OD:∀ (l:List bA) (t:Int) (b:Int×Int),(∀ e∈l,(0<=iO e.1))->(l.foldl (λb e=>if e.2<=t then (if eo e.1=2 then (-1,e.2) else (iO e.1,e.2)) else b) b=b\/∃ e∈l,e.2<=t/\l.foldl (λb e=>if e.2<=t then (if eo e.1=2 then (-1,e.2) else (iO e.1,e.2)) else b) b=(if eo e.1=2 then (-1,e.2) else (iO e.1,e.2)))
 | [],t,b,_=>.inl rfl
 | x::l,t,b,h=>by
  simp only[List.foldl_cons];by_cases ah:x.2<=t
  ·rw[if_pos ah];rcases OD l t (if eo x.1=2 then (-1,x.2) else (iO x.1,x.2)) λe he=>h e (by grind) with E | ⟨e,he,E,U⟩
   ·exact .inr ⟨x,by simp,ah,E⟩
   ·exact .inr ⟨e,by simp[he],E,U⟩
  ·rw[if_neg ah];rcases OD l t b λe he=>h e (by grind) with E | ⟨e,he,E,U⟩
   ·exact .inl E
   ·exact .inr ⟨e,by simp[he],E,U⟩
theorem amf{c:aZ}(aB:gY c){w:z1'}(U:pE c w){u t:Int}(aH:t<=9999)(h:(ng (gZ c w u) t).1>=0):AQ (c,(ng (gZ c w u) t).2,t):=by
 rcases OD (gZ c w u) t (-1,0) (λe he=>((AO.1 (aB.AP (Ed (AS he)).1)).2.2.2.2.1).1) with E | ⟨e,he,E,ag⟩
 ·unfold ng at h;grind
 ·have:=Eg aB U (AS he);have aN:(ng (gZ c w u) t).2=e.2:=by
   unfold ng;grind
  exact⟨aB.Ox,by grind,by grind,show t<=11000 by omega⟩
abbrev kG(z:hn):aZ:=(z.1,z.2.1,z.2.2.1,z.2.2.2.1,z.2.2.2.2.1,z.c_,z.fs,z.gO,z.iq,z.jQ,z.kX)
abbrev OE(z:hn):List a_:=z.hM
abbrev XG(z:hn):List (Option dQ):=z.nd
abbrev Ej(c:aZ)(l:List a_)(t:List (Option dQ)):hn:=(c.1,c.2.1,c.2.2.1,c.2.2.2.1,c.2.2.2.2.1,c.2.2.2.2.2.1,c.2.2.2.2.2.2.1,c.2.2.2.2.2.2.2.1,c.2.2.2.2.2.2.2.2.1,c.2.2.2.2.2.2.2.2.2.1,c.2.2.2.2.2.2.2.2.2.2,l,t,())
def ux(l:List a_)(w:z1')(u:Int):List bA:=(l.filter λs=>decide (um s=u)).map λs=>(s,x_ s+w.getD (pA s).toNat 0)
theorem amg{l:List a_}{w:z1'}{i:Nat}(h:i<l.length)(u:Int):ux (l.take (i+1)) w u=if l[i].2.2.2.2.1=u then ux (l.take i) w u++[(l[i],x_ l[i]+w.getD (pA l[i]).toNat 0)] else ux (l.take i) w u:=by
 unfold ux;rw[List.take_add_one,List.getElem?_eq_getElem h,Option.toList_some,List.filter_append,List.map_append];grind
theorem XH(l:List a_)(w:z1')(u:Int):(ux l w u).length<=l.length:=by
 unfold ux;grind
abbrev ni(c:aZ)(w:z1'):List (List bA):=[b7 c w 0,b7 c w 1,b7 c w 2,b7 c w 3,b7 c w 4,b7 c w 5,b7 c w 6,b7 c w 7,b7 c w 8,b7 c w 9]
def sX(c:aZ)(w:z1'):Bool:=(eh 0 9).all λu=>eD (b7 c w u)
theorem amh(c:aZ)(w:z1'):sX c w=(eD (b7 c w 0)&&(eD (b7 c w 1)&&(eD (b7 c w 2)&&(eD (b7 c w 3)&&(eD (b7 c w 4)&&(eD (b7 c w 5)&&(eD (b7 c w 6)&&(eD (b7 c w 7)&&(eD (b7 c w 8)&&eD (b7 c w 9)))))))))):=by
 unfold sX;rw[show eh 0 9=[0,1,2,3,4,5,6,7,8,9] from by decide];simp
abbrev ami(x:z1'×hn):Prop:=cw (kG x.2)=0/\pE (kG x.2) x.1/\OE x.2=fu (kG x.2)
def uy(x:z1'×hn):A (Option dQ×Bool×hn):=A.dR (ami x) (if sX (kG x.2) x.1=true then (some (x.1,ni (kG x.2) x.1),true,x.2) else (none,false,x.2))
theorem amj{bm aI:Type}{body:Int×Int×Int×bm->A (V (Int×Int×Int×bm) aI)}(l:List bA){a n:Int}{z:bm}(bad sY:aI)
  (W:∀ i,i<l.length->body (a,n,(i:Int),z)=A.pure (if (!qy l i)=true then .done bad else .next (a,n,((i+1:Nat):Int),z)))
  (he:body (a,n,(l.length:Int),z)=A.pure (.done sY)):A.loop body (a,n,0,z)=A.pure (if eD l=true then sY else bad):=by
 rw[A.dt (List.range l.length) (λi (_:Unit)=>(a,n,(i:Int),z)) (λi b=>if (!qy l i)=true then .done bad else .next b) (λ_=>sY) () ?_ ?_ ?_]
 ·rw[kg (q:=qy l) _ _ (λ_=>rfl)];rfl
 ·rfl
 ·intro i G b;have G:i<l.length:=by grind
  rw[W i G,List.getElem_range];cases qy l i<;>rfl
 grind
theorem XI{X:Type}{l:List bA}(aj:l.length<=12){i:Nat}(G:i<l.length){k:Int}(al:k=1+((i % 2:Nat):Int))(aL B:A X):Od l l[i] i k aL B=if (!qy l i)=true then aL else B:=by
 unfold Od;have zz:=alW l i;rw[Bool.or_comm,sT G]at zz;have aw:(decide (l[i].1.2.2.2.1≠k)||decide ((i:Int) > 0)&&decide (l[i].2=(List.getD l (Int.toNat (IntKind.wrap .i64 ((i:Int) - 1))) ((0,0,0,0,0,0),0)).2))=!qy l i:=by
  rw[<-zz,al];rcases Nat.eq_zero_or_pos i with aX | aX
  ·simp_all
  ·rw[bz (n:=(i:Int) - 1) (by omega) (by omega),show ((i:Int) - 1).toNat=i - 1 from by omega]
 rw[aw];have bL:decide ((i:Int) > 0)=true->(0<=IntKind.wrap .i64 ((i:Int) - 1)/\IntKind.wrap .i64 ((i:Int) - 1)<Int.ofNat (List.length l)):=λh=>by
  have h:=of_decide_eq_true h;rw[bz (n:=(i:Int) - 1) (by omega) (by omega),bV];omega
 simp_all
theorem amk{l:List bA}(h:l.length<=12):AE (l5.sh,l,())=A.pure (ft hY l,()):=A.bR ⟨h,rfl⟩ _
theorem aml{l:List a_}{w:z1'}{c:aZ}(aj:l.length<=12)(aD:∀ s∈l,lA c.1.length s=true)(hw:pE c w){i:Nat}(G:i<l.length):0<=l[i].2.2.2.2.1/\l[i].2.2.2.2.1<=9/\(0<=l[i].2.1/\l[i].2.1<(w.length:Int))/\IntKind.wrap .i64 (l[i].2.2.1+w.getD l[i].2.1.toNat 0)=l[i].2.2.1+w.getD l[i].2.1.toNat 0:=by
 have h:=AO.1 (aD _ (List.getElem_mem G));have E:pA l[i]<(w.length:Int):=by rw[hw.1];omega
 have U:=hw.2 _ (x1 (d:=0) h.2.1.1 E);have ag:=h.2.2.1;have a1:=h.2.2.2.1;exact⟨a1.1,a1.2,⟨h.2.1.1,E⟩,bz (by grind) (by grind)⟩
abbrev n5(f:Nat->List bA)(c:hn):ly:=(f 0,f 1,f 2,f 3,f 4,f 5,f 6,f 7,f 8,f 9,c)
theorem OF{f g:Nat->List bA}(h:∀ u,u<10->f u=g u)(c:hn):n5 f c=n5 g c:=by
 simp only[n5,h 0 (by decide),h 1 (by decide),h 2 (by decide),h 3 (by decide),h 4 (by decide),h 5 (by decide),h 6 (by decide),h 7 (by decide),h 8 (by decide),h 9 (by decide)]
theorem OG(f:Nat->List bA)(c:hn):∀ k,k<10->mC k (n5 f c)=f k
 | 0,_ | 1,_ | 2,_ | 3,_ | 4,_ | 5,_ | 6,_ | 7,_ | 8,_ | 9,_=>rfl
 | k+10,h=>by omega
theorem XJ(f:Nat->List bA)(c:hn)(v:List bA):∀ k,k<10->HM k v (n5 f c)=n5 (λj=>if j=k then v else f j) c
 | 0,_ | 1,_ | 2,_ | 3,_ | 4,_ | 5,_ | 6,_ | 7,_ | 8,_ | 9,_=>rfl
 | k+10,h=>by omega
theorem XK{X:Type}(f:Nat->A X){v:Int}{u:Nat}(h:v=(u:Int)):∀ {n:Nat},u<=n->HO f v n=f u
 | 0,hu=>by
  obtain rfl:u=0:=by omega
  rfl
 | n+1,hu=>by
  unfold HO;simp only[hX,bV,h];by_cases e:u=n+1
  ·rw[if_pos (by omega),e]
  ·rw[if_neg (by omega)];exact XK f rfl (by omega)
theorem amm{c:aZ}{w:z1'}(ka:∀ u,(b7 c w u).length<=12){z:hn}{g:Nat->List bA}{k:Nat}(al:k<10)(aB:g k=b7 c w k) :
  A.loop (HN k) (Int.ofNat k,Int.ofNat (List.length (b7 c w k)),0,w,n5 g z)=A.pure (if eD (b7 c w k)=true then .next (Int.ofNat k,w,n5 g z) else .done (.done (none,false,z))):=by
 have aw:mC k (n5 g z)=b7 c w k:=(OG g z k al).trans aB;refine amj (b7 c w k) _ _ (λi G=>?_) ?_
 ·have hw:=bz (n:=(i:Int)+1) (by omega) (by have:=ka k;omega);unfold HN;simp only[bV,cU G,if_true,aw,cM G,df G,A.bp];rcases Nat.mod_two_eq_zero_or_one i with hm | hm
  ·have au:decide (Int.tmod (i:Int) 2=1)=false:=by rw[Xu,hm];rfl
   simp only[au,Bool.false_eq_true,if_false,A.Fj,A.aF,A.bY];rw[A.bt (by decide),aw];refine (XI (ka k) G (by rw[hm];rfl) _ _).trans ?_;simp only[ch,hw];cases qy (b7 c w k) i<;>rfl
  ·have au:decide (Int.tmod (i:Int) 2=1)=true:=by rw[Xu,hm];rfl
   simp only[au,if_true,A.Fj,A.aF,A.bY];rw[A.bt (by decide),aw];refine (XI (ka k) G (by rw[hm];rfl) _ _).trans ?_;simp only[ch,hw];cases qy (b7 c w k) i<;>rfl
 ·unfold HN;simp
theorem XL{c:aZ}{w:z1'}(hlen:∀ u,(oT c w u).length<=12)(ka:∀ u,(b7 c w u).length<=12){z:hn}:∀ n k,k+n=10->
  D5 AE l5.sh n k (w,n5 (λu=>if u<k then b7 c w u else oT c w u) z)=A.pure (if ((List.range' k n).all λu=>eD (b7 c w u))=true then .next (w,n5 (λu=>b7 c w u) z) else .done (none,false,z))
 | 0,k,h=>by
  unfold D5;rw[OF (g:=λu=>b7 c w u) λu hu=>if_pos (by omega)];rfl
 | n+1,k,h=>by
  have al:k<10:=by omega
  have aD:AE (l5.sh,oT c w k,())=A.pure (b7 c w k,()):=amk (hlen k);have hw:=bz (n:=(k:Int)+1) (by omega) (by omega);have aN:HM k (b7 c w k) (n5 (λu=>if u<k then b7 c w u else oT c w u) z)=n5 (λu=>if u<k+1 then b7 c w u else oT c w u) z:=by
   rw[XJ _ _ _ _ al];exact OF (λu hu=>by
    by_cases e:u=k
    ·subst e;simp
    ·by_cases aN:u<k
     ·simp[e,aN,show u<k+1 by omega]
     ·simp[e,aN,show ¬u<k+1 by omega]) _
  unfold D5;dsimp only;rw[A.bt (by simp only[bV];omega),OG _ _ _ al,if_neg (Nat.lt_irrefl k),aD,A.aF];simp only[aN];rw[amm ka al (if_pos (Nat.lt_succ_self k)),A.aF,List.range'_succ,List.all_cons];cases eD (b7 c w k) with
  | false=>rfl
  | true=>
   simp only[if_true,Bool.true_and,A.bY];rw[A.bt (by simp only[bV,ch,hw];omega)];exact XL hlen ka n (k+1) (by omega)
theorem OH(x):A.le (W2 oS.sh AE l5.sh x) (uy x):=A.bq λh=>by
 obtain⟨w,z⟩:=x;obtain⟨E,U,ag⟩:=h;change cw (kG z)=0 at E;change pE (kG z) w at U;change z.hM=fu (kG z) at ag;show _=A.pure (if sX (kG z) w=true then (some (w,ni (kG z) w),true,z) else (none,false,z));generalize t_:kG z=c at *
 have aB:=oU E;have aj:=aB.Ow;have o9:∀ s∈fu c,lA c.1.length s=true:=λs aD=>aB.AP aD;have aA:=aB.eb;have hlen:∀ u,(oT c w u).length<=12:=λu=>Nat.le_trans (XH (fu c) w u) aj;have ka:∀ u,(b7 c w u).length<=12:=λu=>Ec aB w u;have pF:∀ u,ux z.hM w u=oT c w u:=λu=>by rw[ag];rfl
 rw[<-ag]at aj o9;clear ag;unfold W2;rw[show oS.sh w=A.pure w from A.bR (show w.length<=3000000 by have:=U.1;omega) _];simp only[A.aF,A.bY,A.bp];refine (congrArg (λm=>A.bind m _) (A.dt z.hM (λi (_:Unit)=>(w,z.hM,(z.hM.length:Int),(i:Int),w,n5 (λu=>ux (z.hM.take i) w u) z)) (λ_ b=>.next b) (λ_=>.next (w,n5 (λu=>oT c w u) z)) () ?_ ?_ ?_)).trans ?_
 ·simp only[bV,List.take_zero];rfl
 ·intro i G b;obtain⟨aP,aR,bO,gx⟩:=aml (c:=c) aj o9 U G;have hw:=bz (n:=(i:Int)+1) (by omega) (by omega);have iD:∀ u,bP (Add.add (ux (z.hM.take i) w u).length (Add.add 0 1)):=λu=>gb (by have:=XH (z.hM.take i) w u;rw[List.length_take]at this;simp only[hX];omega);obtain⟨u,hu⟩:∃ u:Nat,z.hM[i].2.2.2.2.1=(u:Int):=⟨z.hM[i].2.2.2.2.1.toNat,by omega⟩
  have amn:u<=9:=by omega
  simp only[bV,cU G,if_true,df G,cM G,A.bp];rw[A.bt (show (0<=z.hM[i].2.2.2.2.1/\z.hM[i].2.2.2.2.1<((10:Nat):Int)) from⟨aP,by omega⟩),XK _ hu amn];unfold W1;simp only[df G,bV,OG _ _ u (show u<10 by omega),XJ _ _ _ u (show u<10 by omega)];rw[A.bt trivial,A.bt (by omega),A.bt bO,A.bt (iD _),A.bt trivial,A.bt (by omega),A.aF,A.bY];simp only[ch,hw,gx];refine congrArg (λq=>A.pure (V.next (w,z.hM,(z.hM.length:Int),((i:Int)+1),w,q))) ?_;refine OF (λj aE=>?_) _;rw[amg G,hu];by_cases e:j=u
  ·subst e;rw[if_pos rfl,if_pos rfl,<-hu]
  ·rw[if_neg e,if_neg (by omega)]
 ·intro b;simp only[List.take_length,pF];simp
 ·rw[dP,A.aF,A.bY];have bG:=XL (c:=c) (w:=w) hlen ka (z:=z) 10 0 rfl;rw[A.bt (by decide)];rw[show (λu:Nat=>if u<0 then b7 c w u else oT c w u)=λu:Nat=>oT c w u from funext λu=>if_neg (Nat.not_lt_zero u)]at bG;rw[bG,A.aF];have aw:((List.range' 0 10).all λu=>eD (b7 c w u))=sX c w:=by
   rw[amh];simp[List.range']
  rw[aw];cases sX c w<;>rfl
abbrev ir(c:aZ)(w:z1'):Option dQ:=some (w,ni c w)
abbrev amo(f:Nat)(x:z1'×hn):Prop:=cw (kG x.2)=0/\OE x.2=fu (kG x.2)/\x.1.length<=(kG x.2).1.length/\(kG x.2).1.length<x.1.length+f/\sV (kG x.2) x.1=true/\(XG x.2).length+kk ((kG x.2).1.drop x.1.length)<=60
def yf(f:Nat)(x:z1'×hn):A hn:=A.dR (amo f x) (Ej (kG x.2) (OE x.2) (XG x.2++(nh (kG x.2) ((kG x.2).1.drop x.1.length) x.1).map (ir (kG x.2))))
theorem amp(x):¬(yf 0 x).ck:=λh=>by have E:=h.2.2.1;have U:=h.2.2.2.1;omega
theorem amq{c:aZ}{w:z1'}{n:Int}:sV c (w++[n])=(sV c w&&b3 n (c.1.getD w.length (0,0)).1 (c.1.getD w.length (0,0)).2):=by
 unfold sV;grind
theorem amr{c:aZ}{w:z1'}(aj:w.length=c.1.length)(h:sV c w=true):iQ c w=sX c w:=by
 unfold iQ sX;grind
set_option maxHeartbeats 1000000 in
theorem ams(f:Nat)(x):A.le (W4 (yf f) uy x) (yf (f+1) x):=A.bq λh=>by
 obtain⟨w,a0,b8,a2,a3,a4,a5,fG,fH,hZ,a9,hz,l,t,u⟩:=x;obtain⟨E,U,ag,a1,bL,dm⟩:=h;change cw (a0,b8,a2,a3,a4,a5,fG,fH,hZ,a9,hz)=0 at E;change l=fu (a0,b8,a2,a3,a4,a5,fG,fH,hZ,a9,hz) at U;change w.length<=a0.length at ag;change a0.length<w.length+(f+1) at a1;change sV (a0,b8,a2,a3,a4,a5,fG,fH,hZ,a9,hz) w=true at bL;change t.length+kk (a0.drop w.length)<=60 at dm;show _=A.pure (Ej (a0,b8,a2,a3,a4,a5,fG,fH,hZ,a9,hz) l (t++(nh (a0,b8,a2,a3,a4,a5,fG,fH,hZ,a9,hz) (a0.drop w.length) w).map (ir (a0,b8,a2,a3,a4,a5,fG,fH,hZ,a9,hz))));have aB:=oU E;have aA:a0.length<=3:=aB.eb;unfold W4;simp only[Prod.c_,Prod.fs,Prod.gO,Prod.iq,Prod.jQ,Prod.kX,Prod.hM,Prod.nd,Prod.pz,Prod.sK,Prod.x7,Prod.DV,Prod.DW,Prod.DX,Prod.DY,bV,A.bp];by_cases aj:w.length=a0.length
 ·rw[if_pos (by simp only[decide_eq_true_eq];omega)];have amt:pE (a0,b8,a2,a3,a4,a5,fG,fH,hZ,a9,hz) w:=XE aB aj bL;have af:uy (w,a0,b8,a2,a3,a4,a5,fG,fH,hZ,a9,hz,l,t,())=A.pure (if sX (a0,b8,a2,a3,a4,a5,fG,fH,hZ,a9,hz) w=true then (ir (a0,b8,a2,a3,a4,a5,fG,fH,hZ,a9,hz) w,true,a0,b8,a2,a3,a4,a5,fG,fH,hZ,a9,hz,l,t,()) else (none,false,a0,b8,a2,a3,a4,a5,fG,fH,hZ,a9,hz,l,t,())):=A.bR ⟨E,amt,U⟩ _;rw[af,A.aF,aj,List.drop_length];unfold nh;rw[amr aj bL];cases al:sX (a0,b8,a2,a3,a4,a5,fG,fH,hZ,a9,hz) w with
  | true=>
   rw[if_pos rfl,if_pos rfl,A.bt (gb (by simp only[hX];omega)),A.aF,A.bY];rfl
  | false=>
   simp only[Bool.false_eq_true,if_false,A.aF,A.bY,List.map_nil,List.append_nil]
 ·have cb:w.length<a0.length:=by omega
  rw[if_neg (by simp only[decide_eq_true_eq];omega),A.bt (show (0:Int)<=(w.length:Int)/\(w.length:Int)<(a0.length:Int) by omega)];rw[List.drop_eq_getElem_cons cb]at dm ⊢;simp only[Int.toNat_natCast,sT cb];have aD:=aB.clk _ (List.getElem_mem cb);change -30<=a0[w.length].1/\a0[w.length].1<=a0[w.length].2/\a0[w.length].2<=30 at aD;have nj:a0.getD w.length (0,0)=a0[w.length]:=sT cb;generalize a0[w.length]=s at *
  unfold kk at dm;have Ek:∀ n (ts:List (Option dQ)),s.1<=n->n<=s.2->ts.length+kk (a0.drop (w.length+1))<=60->yf f (w++[n],a0,b8,a2,a3,a4,a5,fG,fH,hZ,a9,hz,l,ts,())=A.pure (Ej (a0,b8,a2,a3,a4,a5,fG,fH,hZ,a9,hz) l (ts++(nh (a0,b8,a2,a3,a4,a5,fG,fH,hZ,a9,hz) (a0.drop (w.length+1)) (w++[n])).map (ir (a0,b8,a2,a3,a4,a5,fG,fH,hZ,a9,hz)))):=by
   intro n ts aP aR bO;refine (A.bR ⟨E,U,?_,?_,?_,?_⟩ _).trans (congrArg A.pure ?_)
   ·show Ej (a0,b8,a2,a3,a4,a5,fG,fH,hZ,a9,hz) l (ts++(nh (a0,b8,a2,a3,a4,a5,fG,fH,hZ,a9,hz) (a0.drop (w++[n]).length) (w++[n])).map (ir (a0,b8,a2,a3,a4,a5,fG,fH,hZ,a9,hz)))=_;rw[List.length_append,List.length_singleton]
   ·show (w++[n]).length<=a0.length;simp;omega
   ·show a0.length<(w++[n]).length+f;simp;omega
   ·show sV (a0,b8,a2,a3,a4,a5,fG,fH,hZ,a9,hz) (w++[n])=true;rw[amq,bL];show (true&&b3 n (a0.getD w.length (0,0)).1 (a0.getD w.length (0,0)).2)=true;rw[nj,Bool.true_and];exact oR.2 ⟨aP,aR⟩
   ·show ts.length+kk (a0.drop (w++[n]).length)<=60;rw[List.length_append,List.length_singleton];exact bO
  rw[A.f_ (eh s.1 s.2) (λi (ts:List (Option dQ))=>(w,(w.length:Int),s.1+(i:Int),a0,b8,a2,a3,a4,a5,fG,fH,hZ,a9,hz,l,ts,())) (λn ts=>.next (ts++(nh (a0,b8,a2,a3,a4,a5,fG,fH,hZ,a9,hz) (a0.drop (w.length+1)) (w++[n])).map (ir (a0,b8,a2,a3,a4,a5,fG,fH,hZ,a9,hz)))) (λts=>(a0,b8,a2,a3,a4,a5,fG,fH,hZ,a9,hz,l,ts,())) (λi ts=>ts.length<=t.length+i*kk (a0.drop (w.length+1))) t ?_ ?_ ?_ ?_]
  ·rw[dP,XF (f:=λn=>(nh (a0,b8,a2,a3,a4,a5,fG,fH,hZ,a9,hz) (a0.drop (w.length+1)) (w++[n])).map (ir (a0,b8,a2,a3,a4,a5,fG,fH,hZ,a9,hz)))];rw[<-List.map_flatMap];rfl
  ·rw[Int.natCast_zero,Int.add_zero]
  ·simp
  ·intro i G ts af;rw[sH]at G;have hw:=bz (n:=s.1+(i:Int)+1) (by omega) (by omega);have au:decide (s.1+(i:Int)<=s.2)=true:=by simpa using (by omega:s.1+(i:Int)<=s.2)
   have hle:=OA (a0,b8,a2,a3,a4,a5,fG,fH,hZ,a9,hz) (a0.drop (w.length+1)) (w++[s.1+(i:Int)]);have amu:ts.length+kk (a0.drop (w.length+1))<=60:=by
    have:(i+1)*kk (a0.drop (w.length+1))<=(s.2 - s.1+1).toNat*kk (a0.drop (w.length+1)):=Nat.mul_le_mul_right _ (by omega);rw[Nat.succ_mul]at this;omega
   refine⟨?_,λbe db=>?_⟩
   ·simp only[Int.toNat_natCast,nj,au,if_true,ch,hw,An,List.take_length];rw[A.bt (by omega),A.bt ⟨by omega,by omega,trivial,by omega⟩,A.bt ⟨by simp only[hX];omega,gb (by simp only[hX];omega)⟩,Ek _ ts (by omega) (by omega) amu,A.aF];simp only[V.hl];rw[show s.1+((i+1:Nat):Int)=s.1+(i:Int)+1 from by omega]
   ·simp only[V.next.injEq,An]at db;subst db;rw[List.length_append,List.length_map,Nat.succ_mul];omega
  ·intro ts af;rw[sH];have au:decide (s.1+(((s.2 - s.1+1).toNat:Nat):Int)<=s.2)=false:=by simpa using (by omega:s.2<s.1+(((s.2 - s.1+1).toNat:Nat):Int))
   simp only[Int.toNat_natCast,nj,au,Bool.false_eq_true,if_false,A.aF];rw[A.bt (by omega)]
abbrev uz:aZ:=([],[],[],[],0,0,0,0,0,0,0)
abbrev AW:aK:=⟨.ay ho (.bH iN),dd,λx=>∃ c:aZ,x.2=some c/\c.2.2.1.length<2 ^ 63,λx=>(x.2.getD uz).2.2.1.contains (lz x.1)⟩
theorem OI(x):A.le (WD mE.sh x) (AW.sh x):=A.bq λh=>by
 obtain⟨s,o⟩:=x;obtain⟨c,hc,h⟩:=h;change o=some c at hc;subst hc;unfold WD;simp only[Option.getD_some];rw[show mE.sh (c.2.2.1,s.1)=A.pure (c.2.2.1.contains s.1) from A.bR h _,A.aF]
abbrev uA(c:aZ):d':=(c,fu c,(cP c).map (ir c))
def El(c:aZ)(f:Option d'->A Bool):Bool:=(f (some (c,fu c,[]))).val false
def sZ(c:aZ)(b:Bool):Option d'×Int:=if cw c≠0 then (none,cw c) else if b=false then (none,1) else if cP c=[] then (none,3) else (some (uA c),0)
abbrev v8:aK:=⟨.ay iN (.fn (.bH sM) .bool),.ay (.bH sM) bu,λx=>gI x.1/\(cw x.1=0->∃ b,x.2 (some (x.1,fu x.1,[]))=A.pure b),λx=>sZ x.1 (El x.1 x.2)⟩
theorem amv{c:aZ}(aB:gY c):H3 ((λs=>AW.sh (s,some c)),gX c.2.1,())=A.pure ((0,(fu c).length),fu c++List.replicate ((gX c.2.1).length - (fu c).length) jw,()):=by
 have ae:∀ s,AW.sh (s,some c)=A.pure (c.2.2.1.contains s.1):=λs=>A.bR ⟨c,rfl,by have:=aB.jl;omega⟩ _;have e:((gX c.2.1).filter λs=>!(AW.sh (s,some c)).val false)=fu c:=by
  unfold fu;simp_all
 have:=alI c.2.1;refine (A.bR ⟨show (gX c.2.1).length<2 ^ 63 by omega,λs _=>⟨_,ae s⟩⟩ _).trans (congrArg A.pure ?_);grind
set_option maxHeartbeats 1000000 in
theorem amw(x):A.le (Wi hr.sh H0 H3 (yf 5) AW.sh x) (v8.sh x):=A.bq λh=>by
 obtain⟨c,f⟩:=x;obtain⟨h,ao⟩:=h;change gI c at h;change cw c=0->∃ b,f (some (c,fu c,[]))=A.pure b at ao;unfold Wi;show _=A.pure (sZ c (El c f));unfold sZ;rw[show hr.sh c=A.pure (cw c) from A.bR h.fK _];simp only[A.aF,decide_eq_true_eq];by_cases hc:cw c=0
 ·simp only[hc,ne_eq,not_true_eq_false,if_false];have aB:=oU hc;obtain⟨b,W⟩:=ao hc;have E:=aB.eb;have hid:=H2 aB.iZ;rw[show H0 (c.2.1,())=A.pure (true,gX c.2.1,()) from A.bR ⟨hid,(AL _).2 aB.AJ⟩ _,A.aF];simp only[A.bp];rw[amv aB,A.aF];have pD:List.drop 0 (List.take (fu c).length (fu c++List.replicate ((gX c.2.1).length - (fu c).length) jw))=fu c:=by
   rw[List.drop_zero,List.take_left]
  simp only[pD];unfold El;simp only[W,A.fB,A.aF];cases b with
  | false=>simp
  | true=>
   simp only[Bool.not_true,Bool.false_eq_true,if_false,A.aF,A.bY,reduceCtorEq];simp only[Prod.c_,Prod.fs,Prod.gO,Prod.iq,Prod.jQ,Prod.kX,Prod.hM,Prod.nd,Prod.pz,Prod.sK,Prod.x7,Prod.DV,Prod.DW,Prod.DX,Prod.DY,pD];have nj:yf 5 ([],c.1,c.2.1,c.2.2.1,c.2.2.2.1,c.2.2.2.2.1,c.2.2.2.2.2.1,c.2.2.2.2.2.2.1,c.2.2.2.2.2.2.2.1,c.2.2.2.2.2.2.2.2.1,c.2.2.2.2.2.2.2.2.2.1,c.2.2.2.2.2.2.2.2.2.2,fu c,[],())=A.pure (Ej c (fu c) ((cP c).map (ir c))):=A.bR ⟨hc,rfl,Nat.zero_le _,show c.1.length<0+5 by omega,rfl,show 0+kk c.1<=60 by have:=h.2 hc;omega⟩ _;rw[nj,A.aF];simp only[bV,List.length_map];by_cases aH:cP c=[]
   ·simp[aH]
   ·have:¬((cP c).length:Int)=0:=λe=>aH (List.eq_nil_of_length_eq_zero (by omega));simp only[this,aH,if_false]
 ·simp only[hc,ne_eq,not_false_eq_true,if_true]
def v_(l:List (Option dQ))(f:Option dQ->A (Int×Bool)):Option (Int×Int):=ye (l.filterMap λt=>if ((f t).val (0,false)).2=true then some ((f t).val (0,false)).1 else none)
abbrev AX:aK:=⟨.ay (.bH sM) (.fn (.bH x8) (.ay bu .bool)),.ay mD .bool,λx=>∃ b:d',x.1=some b/\b.2.2.length<=60/\∀ t∈b.2.2,∃ r,x.2 t=A.pure r,λx=>((v_ (x.1.getD (uz,[],[])).2.2 x.2).getD (0,0),(v_ (x.1.getD (uz,[],[])).2.2 x.2).isSome)⟩
theorem XM{ak β gC:Type}(g:ak->Option β)(h:gC->β->gC):∀ (l:List ak) (b:gC),l.foldl (λb x=>(g x).elim b λy=>h b y) b=(l.filterMap g).foldl h b
 | [],b=>rfl
 | x::l,b=>by
  simp only[List.foldl_cons,List.filterMap_cons];rw[XM g h l];grind
theorem amx(x):A.le (Wr x) (AX.sh x):=A.bq λh=>by
 obtain⟨o,f⟩:=x;obtain⟨b,W,aj,ao⟩:=h;change o=some b at W;subst W;unfold Wr;show _=A.pure ((v_ b.2.2 f).getD (0,0),(v_ b.2.2 f).isSome);simp only[Option.isSome_some,A.bp,Option.getD_some];change b.2.2.length<=60 at aj;change ∀ t∈b.2.2,∃ r,f t=A.pure r at ao;generalize b.2.2=l at *
 rw[A.dt l (λi (o:Option (Int×Int))=>(f,o.isSome,l,(l.length:Int),(i:Int),o.getD (0,0),())) (λt o=>.next ((if ((f t).val (0,false)).2=true then some ((f t).val (0,false)).1 else none).elim o λn=>some (H8 o n))) (λo=>.next (o.isSome,o.getD (0,0),())) none ?_ ?_ ?_]
 ·rw[dP,XM (λt=>if ((f t).val (0,false)).2=true then some ((f t).val (0,false)).1 else none) (λo n=>some (H8 o n)),A.aF];rfl
 ·rfl
 ·intro i G o;have hw:=bz (n:=(i:Int)+1) (by omega) (by omega);obtain⟨r,M⟩:=ao _ (List.getElem_mem G);simp only[Prod.c_,bV,cU G,if_true,df G,cM G,A.bp,ch,hw,M,A.aF,A.fB,V.hl];obtain⟨n,b6⟩:=r;cases b6 with
  | false=>simp_all
  | true=>
   cases o with
   | none=>simp only[Bool.not_true,Bool.false_eq_true,if_false,if_true,Option.isSome_none,Bool.not_false,A.aF,A.bY,hw,Option.elim];rfl
   | some s=>
    simp only[Bool.not_true,Bool.false_eq_true,if_false,if_true,Option.isSome_some,A.aF,A.bY,hw,Option.elim,Option.getD_some];rw[Xx,alZ];rfl
 simp
section
variable {ak:Type}
def XN(x:Nat×List (Int×ak)×(Nat×(z1'->Prop)×z1'×Bool)×Unit):A ((Nat×(z1'->Prop)×z1'×Bool)×Unit):=
 A.bind (A.pure ()) λy=>A.loop (λ(D:Nat×(Nat×(z1'->Prop)×z1'×Bool)×(Option (Int×ak)×List (Int×ak))×Unit)=>
 A.bind (Gm D.2.2.1.2) λy=>if Option.isSome y=true then A.bind (A.ab (Option.isSome (nS D.2.2.1.1 D.2.2.1.2 y)=true) (A.pure ())) λb2
 =>A.bind (A.ab (D.1=D.2.1.1/\D.2.1.2.2.2=false/\∃ (T:z1'),D.2.1.2.1 (D.2.1.2.2.1++Option.getD (Option.map (λx=>x.1) (nS
 D.2.2.1.1 D.2.2.1.2 y)) 0::T)) (A.any λx=>True)) λdE=>if (!dE)=true then A.bind (A.pure ((D.2.1.1,D.2.1.2.1,D.2.1.2.2.1++
 [Option.getD (Option.map (λx=>x.1) (nS D.2.2.1.1 D.2.2.1.2 y)) 0],!dE),())) λr=>A.pure (V.done r) else A.pure (V.next (D.1,(D.2.1.1,D.2.1.2.1,D.2.1.2.2.1++[Option.getD (Option.map (λx=>x.1) (nS D.2.2.1.1 D.2.2.1.2 y)) 0],!dE),(nS D.2.2.1.1 D.2.2.1.2 y,CQ D.2.2.1.2 y),())) else A.bind (A.pure (D.2.1,())) λr=>A.pure (V.done r)) (x.1,x.2.2.1,(none,x.2.1),())
theorem XO{β:Type}:∀ (l:List β) (i:Nat) (h:i<l.length),(l[i]::l.eraseIdx i).Perm l
 | x::l,0,_=>.refl _
 | x::l,i+1,h=>by
  simp only[List.getElem_cons_succ,List.eraseIdx_cons_succ];exact (List.Perm.swap x _ _).trans ((XO l i (by grind)).cons x)
theorem XP(l:Nat)(m:List (Int×ak)):A.cx (XN (l,m,(l,jR (some m),[],false),())) λy=>y.1.2.2.2=false->jR (some m) y.1.2.2.1:=by
 unfold XN;rw[A.aF];refine A.BP (λD=>∃ p c cm,D=(l,(l,jR (some m),p,false),(c,cm),())/\(m.map (·.1)).Perm (p++cm.map (·.1))) (λD=>D.2.2.1.2.length) ?_ _ ⟨[],none,m,rfl,.refl _⟩;rintro D ⟨p,c,cm,rfl,an⟩;simp only;rw[A.gg];refine⟨trivial,λy aQ=>?_⟩;cases y with
 | none=>
  have M:cm=[]:=aQ;subst M;simp only[Option.isSome_none,Bool.false_eq_true,if_false,A.aF];refine A.ea.2 λ_=>ur.2 (by grind)
 | some i=>
  have G:i<cm.length:=aQ;have aA:nS c cm (some i)=some cm[i]:=List.getElem?_eq_getElem G;have M:CQ cm (some i)=cm.eraseIdx i:=rfl;have Em:(m.map (·.1)).Perm (p++cm[i].1::(cm.eraseIdx i).map (·.1)):=an.trans (List.Perm.append_left p ((XO cm i G).symm.map (·.1)));simp only[Option.isSome_some,if_true,aA,M,A.bp,A.aF,Option.map_some,Option.getD_some];rw[A.gg,A.kL];refine⟨⟨trivial,trivial,(cm.eraseIdx i).map (·.1),ur.2 Em⟩,⟨true,trivial⟩,λb _=>?_⟩;cases b with
  | false=>
   simp only[Bool.not_false,if_true,A.aF];exact A.ea.2 λh=>by cases h
  | true=>
   simp only[Bool.not_true,Bool.false_eq_true,if_false];refine A.ea.2 ⟨⟨p++[cm[i].1],some cm[i],cm.eraseIdx i,rfl,by grind⟩,?_⟩;grind
end
theorem amy(l:Nat)(m:z4'):A.cx (Ob (l,m,(l,jR (some m),[],false),())) λy=>y.1.2.2.2=false->jR (some m) y.1.2.2.1:=XP l m
theorem amz(l:Nat)(m:List (Int×a_)):A.cx (Oc (l,m,(l,jR (some m),[],false),())) λy=>y.1.2.2.2=false->jR (some m) y.1.2.2.1:=XP l m
def dz(cl:z4'):List bA->List bA
 | a::b::r=>(a.1,l6 cl a.2 b.2)::dz cl r
 | _=>[]
def En(c:aZ)(fY:List (List bA)):Prop:=fY.length=10/\∀ l∈fY,l.length<=12/\∀ i,(h:i+1<l.length)->AQ (c,l[i].2,l[i+1].2)
def pG(c:aZ)(fY:List (List bA)):List bA:=fY.flatMap (dz c.2.2.2.1)
def s3(x:Option (Option dQ)×Option (Option d'))(L:List bA):Prop:=∃ t b,x.1=some (some t)/\x.2=some (some b)/\En b.1 t.2/\L=pG b.1 t.2
theorem amA{cl:z4'}{l:List bA}{i:Nat}(h:i+1<l.length):dz cl (l.drop i)=(l[i].1,l6 cl l[i].2 l[i+1].2)::dz cl (l.drop (i+2)):=by
 rw[List.drop_eq_getElem_cons (by omega:i<l.length),List.drop_eq_getElem_cons h];rfl
theorem amB{cl:z4'}{l:List bA}{i:Nat}(h:¬i+1<l.length):dz cl (l.drop i)=[]:=by
 have:(l.drop i).length<=1:=by grind
 match h:l.drop i with
 | []=>rfl
 | [_]=>rfl
 | _::_::_=>grind
set_option maxHeartbeats 1000000 in
theorem amC(fh:Nat)(t:dQ)(b:d')(h:En b.1 t.2):A.cx (HL vY.sh (fh,some t,some b,(fh,s3 (some (some t),some (some b)),[],false),())) λy=>y.1.2.2.2=false->s3 (some (some t),some (some b)) y.1.2.2.1:=by
 obtain⟨E,U⟩:=h;have G8:∀ L,s3 (some (some t),some (some b)) L<->L=pG b.1 t.2:=λL=>⟨λ⟨cX,be,aw,aN,_,e⟩=>by cases aw;cases aN;exact e,λe=>⟨t,b,rfl,rfl,⟨E,U⟩,e⟩⟩
 generalize s3 (some (some t),some (some b))=S at *
 unfold HL;simp only[Option.isSome_some,A.bp,Option.getD_some];refine A.BP (λD=>∃ (u:Nat),u<=10/\D=(fh,some b,t.2,(u:Int),(fh,S,(t.2.take u).flatMap (dz b.1.2.2.2.1),false),())) (λD=>(10 - D.2.2.2.1).toNat) ?_ _ ⟨0,by omega,rfl⟩;rintro D ⟨u,hu,rfl⟩;by_cases LZ:u<10
 ·have au:decide ((u:Int)<10)=true:=by simpa using (by omega:(u:Int)<10)
  have sC:u<t.2.length:=by omega
  have amD:=bz (n:=(u:Int)+1) (by omega) (by omega);have hm:=List.getElem_mem sC;obtain⟨ag,a1⟩:=U _ hm;simp only[au,if_true,df sC];rw[A.bt (show (0:Int)<=(u:Int)/\(u:Int)<Int.ofNat 10 by rw[bV];omega)];have fT:pG b.1 t.2=(t.2.take u).flatMap (dz b.1.2.2.2.1)++(dz b.1.2.2.2.1 t.2[u]++(t.2.drop (u+1)).flatMap (dz b.1.2.2.2.1)):=by
   unfold pG;conv=>lhs;rw[<-List.take_append_drop u t.2,List.drop_eq_getElem_cons sC]
   simp only[List.flatMap_append,List.flatMap_cons]
  generalize amE:t.2[u]=jU at *
  generalize (t.2.drop (u+1)).flatMap (dz b.1.2.2.2.1)=R at *
  generalize jq:(t.2.take u).flatMap (dz b.1.2.2.2.1)=P at *
  have amF:(t.2.take (u+1)).flatMap (dz b.1.2.2.2.1)=P++dz b.1.2.2.2.1 jU:=by
   rw[List.take_add_one,List.getElem?_eq_getElem sC,Option.toList_some,List.flatMap_append,jq,amE];simp
  rw[A.gg];refine (A.BP (p:=λz=>match z with | .next z=>z=(fh,some b,t.2,(u:Int),(fh,S,P++dz b.1.2.2.2.1 jU,false),()) | .done z=>(match z with | .next _=>False | .done y=>y.1.2.2.2=true)) (λD=>∃ (i:Nat) (Q:List bA),i<=jU.length+1/\Q++dz b.1.2.2.2.1 (jU.drop i)=dz b.1.2.2.2.1 jU/\D=(fh,some b,jU,(i:Int),t.2,(u:Int),(fh,S,P++Q,false),())) (λD=>(20 - D.2.2.2.1).toNat) ?_ _ ⟨0,[],by omega,by simp,by simp⟩).mono λz bk=>?_
  ·rintro D ⟨i,Q,oy,ub,rfl⟩;have hw:=bz (n:=(i:Int)+1) (by omega) (by omega);have gW:=bz (n:=(i:Int)+2) (by omega) (by omega);by_cases G:i+1<jU.length
   ·have LQ:i<jU.length:=by omega
    have au:decide ((i:Int)+1<(jU.length:Int))=true:=by simpa using (by omega:(i:Int)+1<(jU.length:Int))
    have cv:(0:Int)<=(i:Int)+1/\(i:Int)+1<(jU.length:Int):=⟨by omega,by omega⟩
    have jv:jU.getD ((i:Int)+1).toNat ((0,0,0,0,0,0),0)=jU[i+1]:=by
     rw[show ((i:Int)+1).toNat=i+1 from by omega,sT G]
    have em:vY.sh (b.1,jU[i].2,jU[i+1].2)=A.pure (l6 b.1.2.2.2.1 jU[i].2 jU[i+1].2):=A.bR (a1 i G) _;simp only[Prod.c_,Prod.fs,bV,ch,hw,au,if_true,df LQ,cM LQ,cv,jv,Option.isSome_some,Option.getD_some,em,A.iT,A.fB,and_self,A.bp,decide_true];rw[A.gg,A.kL];have cV:=amA (cl:=b.1.2.2.2.1) G;refine⟨⟨trivial,trivial,dz b.1.2.2.2.1 (jU.drop (i+2))++R,(G8 _).2 ?_⟩,⟨true,trivial⟩,λy _=>?_⟩
    ·rw[fT,<-ub,cV];simp
    ·cases y with
     | false=>
      simp only[Bool.not_false,if_true,A.aF];exact A.ea.2 rfl
     | true=>
      simp only[Bool.not_true,Bool.false_eq_true,if_false,gW];refine A.ea.2 ⟨⟨i+2,Q++[(jU[i].1,l6 b.1.2.2.2.1 jU[i].2 jU[i+1].2)],by omega,?_,?_⟩,?_⟩
      ·rw[<-ub,cV];simp
      ·rw[List.append_assoc];rfl
      ·show (20 - ((i:Int)+2)).toNat<(20 - (i:Int)).toNat;omega
   ·have au:decide ((i:Int)+1<(jU.length:Int))=false:=by simpa using (by omega:(jU.length:Int)<=(i:Int)+1)
    simp only[bV,ch,hw,au,Bool.false_eq_true,if_false,A.aF];refine A.ea.2 ?_;rw[amB G,List.append_nil]at ub;show (fh,some b,t.2,(u:Int),(fh,S,P++Q,false),())=_;rw[ub]
  ·cases z with
   | next z=>
    have bk:z=_:=bk;subst bk;simp only[A.bY,ch,amD];refine A.ea.2 ⟨⟨u+1,by omega,?_⟩,?_⟩
    ·rw[amF];rfl
    ·show (10 - ((u:Int)+1)).toNat<(10 - (u:Int)).toNat;omega
   | done z=>
    cases z with
    | next z=>exact absurd bk id
    | done y=>
     have bk:y.1.2.2.2=true:=bk;simp only[A.pv];refine A.ea.2 λh=>?_;rw[bk]at h;cases h
 ·have No:u=10:=by omega
  subst No;simp only[show decide (((10:Nat):Int)<10)=false from by decide,Bool.false_eq_true,if_false,A.aF];refine A.ea.2 λ_=>(G8 _).2 ?_;show (t.2.take 10).flatMap _=_;rw[<-E,List.take_length];rfl
abbrev AY:aK:=⟨.ay (.bH sM) (.bH x8),.cr (.ay ho bu),λ_=>True,λx=>s3 (some x.2,some x.1)⟩
theorem amG(x):A.le (akE s3 x) (AY.sh x):=A.bq λ_=>rfl
end Go.Fer.H
namespace Go.Fer.H
open A (V)
theorem AZ{ak β:Type}{f:ak->β}:∀ {l:List ak},(l.map f).Nodup->∀ {a b:ak},a∈l->b∈l->f a=f b->a=b
 | [],_,a,b,ba,_,_=>by grind
 | x::l,aA,a,b,ba,W,e=>by
  rw[List.map_cons,List.nodup_cons]at aA;rcases List.mem_cons.1 ba with E | E<;>rcases List.mem_cons.1 W with U | U
  ·grind
  ·grind
  ·grind
  ·exact AZ aA.2 E U e
theorem amH{l m:z1'}(h:l.Perm m):l.sum=m.sum:=by
 induction h with
 | nil=>rfl
 | cons x _ aJ=>grind
 | swap x y l=>grind
 | trans _ _ E U=>omega
theorem OJ{l:List bA}(h:eD l=true){i:Nat}(G:i<l.length):eo l[i].1=1+((i % 2:Nat):Int)/\(0<i->l[i].2≠(l.getD (i - 1) bG).2):=by
 unfold eD at h;rw[List.all_eq_true]at h;have:=h i (by grind);unfold qy at this;grind
theorem XQ(cl:z4'):∀ l:List bA,(∀ i,(h:i<l.length)->eo l[i].1=1+((i % 2:Nat):Int))->dz cl l=((uv l).filter λp=>eo p.1.1 == 1).map λp=>(p.1.1,l6 cl p.1.2 p.2.2)
 | [],_=>rfl
 | [_],_=>rfl
 | [a,b],h=>by
  have ba:eo a.1=1:=h 0 (by simp);simp[dz,uv,ba]
 | a::b::c::r,h=>by
  have ba:eo a.1=1:=h 0 (by simp);have W:eo b.1=2:=h 1 (by simp);have aJ:=XQ cl (c::r) λi G=>by
   have:=h (i+2) (by grind);grind
  have e:uv (a::b::c::r)=(a,b)::(b,c)::uv (c::r):=rfl;rw[e,List.filter_cons_of_pos (by grind),List.filter_cons_of_neg (by grind),List.map_cons,<-aJ];rfl
abbrev nk(c:aZ)(w:z1'):List bA:=pG c (ni c w)
theorem Ih(c:aZ)(w:z1'):nk c w=(eh 0 9).flatMap λu=>dz c.2.2.2.1 (b7 c w u):=by
 rfl
theorem OK{c:aZ}{w:z1'}(hw:iQ c w=true){u:Int}(hu:0<=u/\u<=9):gZ c w u=b7 c w u:=by
 unfold gZ;rw[if_pos (H7 hw hu)]
theorem amI{cl:z4'}{l:List bA}(h:eD l=true)(jf:Int):Ef cl jf l=((dz cl l).find? λp=>p.1.1 == jf).map (·.2):=by
 rw[XQ cl l λi G=>(OJ h G).1];unfold Ef;rw[List.find?_map,List.find?_filter,Option.map_map];refine congrArg _ (congrArg (λf=>(uv l).find? f) ?_);grind
theorem XR{ak β:Type}{f g:ak->Option β}:∀ {l:List ak},(∀ x∈l,f x=g x)->l.findSome? f=l.findSome? g
 | [],_=>rfl
 | x::l,h=>by
  rw[List.findSome?_cons,List.findSome?_cons,h x (by simp),XR λy aQ=>h y (by grind)]
theorem OL{c:aZ}{w:z1'}(hw:iQ c w=true)(jf:Int):jT c w jf=((nk c w).find? λp=>p.1.1 == jf).map (·.2):=by
 unfold jT;rw[Ih,List.find?_flatMap,List.map_findSome?];refine XR λu hu=>?_;have hu:=sI.1 hu;rw[OK hw hu,amI (H7 hw hu)];rfl
theorem XS{c:aZ}(aB:gY c){w:z1'}(hw:iQ c w=true):En c (ni c w):=by
 have U:=Eh aB.Ou hw;have key:∀ u:Int,0<=u/\u<=9->(b7 c w u).length<=12/\∀ i,(h:i+1<(b7 c w u).length)->AQ (c,(b7 c w u)[i].2,(b7 c w u)[i+1].2):=by
  intro u hu;have:=OK hw hu;refine⟨Ec aB w u,?_⟩;have k:=λi=>@Xz c aB w U u i;simp only[this]at k;exact k
 refine⟨rfl,λl aj=>?_⟩;simp only[ni,List.mem_cons,List.not_mem_nil,or_false]at aj;rcases aj with rfl | rfl | rfl | rfl | rfl | rfl | rfl | rfl | rfl | rfl<;>exact key _ (by omega)
theorem XT{cl:z4'}:∀ {l:List bA} {p:bA},p∈dz cl l->∃ i,∃ h:i+1<l.length,i % 2=0/\p=(l[i].1,l6 cl l[i].2 l[i+1].2)
 | [],_,h=>by simp[dz]at h
 | [_],_,h=>by simp[dz]at h
 | a::b::r,p,h=>by
  unfold dz at h;rcases List.mem_cons.1 h with rfl | h
  ·exact⟨0,by simp,rfl,rfl⟩
  ·obtain⟨i,G,U,e⟩:=XT h;exact⟨i+2,by grind,by omega,e⟩
theorem XU(cl:z4'):∀ l:List bA,((dz cl l).map (·.1)).Sublist (l.map (·.1))
 | []=>.slnil
 | [_]=>List.nil_sublist _
 | a::b::r=>by
  unfold dz;simp only[List.map_cons];exact ((XU cl r).cons _).cons_cons _
theorem XV(l:List a_):((gX l).map (·.1)).Nodup:=by
 unfold gX;have key:∀ L:z1',L.Nodup->((L.filterMap λid=>l.find? λs=>s.1 == id).map (·.1)).Nodup/\∀ k∈(L.filterMap λid=>l.find? λs=>s.1 == id).map (·.1),k∈L:=by
  grind
 refine (key _ ?_).1;unfold eh;show List.Pairwise _ _;rw[List.pairwise_map];exact (List.pairwise_lt_range).imp λh=>by omega
theorem OM(c:aZ):((fu c).map (·.1)).Nodup:=by
 unfold fu;exact (XV c.2.1).sublist (List.filter_sublist.map _)
theorem ON{c:aZ}{a b:a_}(ba:a∈fu c)(W:b∈fu c)(h:a.1=b.1):a=b:=by
 exact AZ (OM c) ba W h
theorem OO(c:aZ)(w:z1')(u:Int):((b7 c w u).map (·.1)).Perm ((fu c).filter λs=>decide (um s=u)):=by
 unfold b7 oT;refine ((D9 hY _).map _).trans ?_;rw[List.map_map];exact List.Perm.of_eq (List.map_id' _)
theorem XW{c:aZ}{w:z1'}{p:bA}(h:p∈nk c w):∃ u,0<=u/\u<=9/\∃ i,∃ G:i+1<(b7 c w u).length,i % 2=0/\p=((b7 c w u)[i].1,l6 c.2.2.2.1 (b7 c w u)[i].2 (b7 c w u)[i+1].2):=by
 rw[Ih,List.mem_flatMap]at h;obtain⟨u,hu,an⟩:=h;obtain⟨i,G,U,e⟩:=XT an;exact⟨u,(sI.1 hu).1,(sI.1 hu).2,i,G,U,e⟩
theorem A0{c:aZ}{w:z1'}{p:bA}(h:p∈nk c w):p.1∈fu c:=by
 obtain⟨u,_,_,i,G,_,rfl⟩:=XW h;exact (Ed (List.getElem_mem (by omega:i<(b7 c w u).length))).1
theorem amJ{c:aZ}{w:z1'}(hw:iQ c w=true){p:bA}(h:p∈nk c w):eo p.1=1:=by
 obtain⟨u,E,U,i,G,ag,rfl⟩:=XW h;have:=(OJ (H7 hw ⟨E,U⟩) (by omega:i<(b7 c w u).length)).1;grind
theorem OP(c:aZ)(w:z1'):((nk c w).map (·.1)).Nodup:=by
 have hc:(fu c).Nodup:=by
  have:=OM c;exact List.Pairwise.of_map _ (λa b h e=>h (by rw[e])) this
 have hu:∀ u,((dz c.2.2.2.1 (b7 c w u)).map (·.1)).Nodup/\∀ s∈(dz c.2.2.2.1 (b7 c w u)).map (·.1),um s=u:=by
  intro u;have aD:=XU c.2.2.2.1 (b7 c w u);have an:=OO c w u;grind
 rw[Ih,List.map_flatMap];have key:∀ L:z1',L.Nodup->(L.flatMap λu=>(dz c.2.2.2.1 (b7 c w u)).map (·.1)).Nodup/\∀ s∈(L.flatMap λu=>(dz c.2.2.2.1 (b7 c w u)).map (·.1)),um s∈L:=by
  grind
 refine (key _ ?_).1;unfold eh;show List.Pairwise _ _;rw[List.pairwise_map];exact (List.pairwise_lt_range).imp λh=>by omega
theorem XX{ak:Type}(yg:ak->Int):∀ (l:List ak) (n:Int),l.foldl (λn x=>n+yg x) n=n+(l.map yg).sum
 | [],n=>by simp
 | x::l,n=>by simp only[List.foldl_cons,List.map_cons,List.sum_cons];rw[XX yg l];omega
theorem amK{ak:Type}{f g:ak->Int}{l:List ak}(h:∀ x∈l,f x=g x):(l.map f).sum=(l.map g).sum:=by rw[List.map_congr_left h]
theorem amL{ψ:bA->Int}:∀ (C:List a_) (H:List bA),(C.map (·.1)).Nodup->(H.map (·.1)).Nodup->(∀ p∈H,p.1∈C)->(C.map λs=>(((H.find? λp=>p.1.1 == s.1).map ψ).getD 0)).sum=(H.map ψ).sum:=by
 intro C H jn mR q4;have e:(H.map ψ).sum=((C.filterMap λs=>H.find? λp=>p.1.1 == s.1).map ψ).sum:=by
  refine amH (List.Perm.map ψ ?_);have amM:H.Nodup:=List.Pairwise.of_map _ (λa b h e=>h (by rw[e])) mR;refine (List.perm_ext_iff_of_nodup amM ?_).2 λp=>?_
  ·have:∀ C:List a_,(C.map (·.1)).Nodup->(C.filterMap λs=>H.find? λp=>p.1.1 == s.1).Nodup/\∀ q∈(C.filterMap λs=>H.find? λp=>p.1.1 == s.1),q.1.1∈C.map (·.1):=by
    grind
   grind
  ·rw[List.mem_filterMap];constructor
   ·intro an;refine⟨p.1,q4 p an,?_⟩;have hex:(H.find? λq=>q.1.1 == p.1.1).isSome=true:=List.find?_isSome.2 ⟨p,an,by simp⟩;obtain⟨q,br⟩:=Option.isSome_iff_exists.1 hex;have Eo:q.1.1=p.1.1:=by grind
    have v':=List.mem_of_find?_eq_some br;have amN:q.1=p.1:=AZ jn (q4 q v') (q4 p an) Eo;have:q=p:=AZ mR v' an amN;grind
   grind
 rw[e];have:∀ C:List a_,(C.map λs=>(((H.find? λp=>p.1.1 == s.1).map ψ).getD 0)).sum=((C.filterMap λs=>H.find? λp=>p.1.1 == s.1).map ψ).sum:=by
  intro C;induction C with
  | nil=>rfl
  | cons s C aJ=>
   grind
 grind
def uB(c:aZ)(g:Int)(p:bA):Int:=if iO p.1=g then lB c.2.2.2.2 p.2 else 0
theorem amO{c:aZ}{w:z1'}(hw:iQ c w=true)(g:Int):H6 c w g=((nk c w).map (uB c g)).sum:=by
 rw[<-amL (ψ:=uB c g) (fu c) (nk c w) (OM c) (OP c w) λp an=>A0 an];unfold H6;have e:(λ(n:Int) (s:a_)=>if (eo s=1/\iO s=g)/\(jT c w (lz s)).isSome=true then n+lB c.2.2.2.2 ((jT c w (lz s)).getD 0) else n)=λn s=>n+(if (eo s=1/\iO s=g)/\(jT c w (lz s)).isSome=true then lB c.2.2.2.2 ((jT c w (lz s)).getD 0) else 0):=by
  grind
 rw[e,XX,Int.zero_add];refine amK λs aD=>?_;rw[OL hw];cases ao:(nk c w).find? λp=>p.1.1 == lz s with
 | none=>simp
 | some p=>
  have an:=List.mem_of_find?_eq_some ao;have E:p.1.1=s.1:=by grind
  have U:p.1=s:=ON (A0 an) aD E;have ag:=amJ hw an;rw[U]at ag;simp only[Option.map_some,Option.getD_some,Option.isSome_some,and_true,ag,true_and,uB,U]
theorem A1(c:aZ)(b:Bool):((dM c b).2≠0/\(dM c b).1=[]/\sZ c b=(none,(dM c b).2))\/(dM c b=(cP c,0)/\cw c=0/\b=true/\sZ c b=(some (uA c),0)):=by
 unfold dM sZ;by_cases hc:cw c=0
 ·cases b with
  | false=>left;simp[hc]
  | true=>
   by_cases aH:cP c=[]
   ·left;simp[hc,aH]
   ·right;simp[hc,aH]
 ·left;simp[hc]
theorem OQ{ak β:Type}{f g:ak->Option β}:∀ {l:List ak},(∀ x∈l,f x=g x)->l.filterMap f=l.filterMap g
 | [],_=>rfl
 | x::l,h=>by
  rw[List.filterMap_cons,List.filterMap_cons,h x (by simp),OQ λy aQ=>h y (by simp[aQ])]
theorem XY:uw []=(0,0):=rfl
theorem amP{ak:Type}(L:List ak)(P:ak->Option dQ)(f:Option dQ->A (Int×Bool))(v:ak->Int×Bool)(h:∀ w∈L,f (P w)=A.pure (v w)):v_ (L.map P) f=ye (L.filterMap λw=>if (v w).2=true then some (v w).1 else none):=by
 unfold v_;rw[List.filterMap_map];refine congrArg ye (OQ λw hw=>?_);simp only[Function.comp,h w hw,A.fB]
theorem XZ{ak:Type}(yg:ak->Int)(L:List ak):(L.filterMap λw=>if ((yg w,true):Int×Bool).2=true then some ((yg w,true):Int×Bool).1 else none)=L.map yg:=by
 simp only[if_true];rw[<-List.filterMap_eq_map']
theorem OR{c:aZ}(aj:(cP c).length<=60){f:Option dQ->A (Int×Bool)}{v:z1'->Int×Bool}(h:∀ w∈cP c,f (ir c w)=A.pure (v w)):AX.sh (some (uA c),f)=A.pure ((ye ((cP c).filterMap λw=>if (v w).2=true then some (v w).1 else none)).getD (0,0),(ye ((cP c).filterMap λw=>if (v w).2=true then some (v w).1 else none)).isSome):=by
 refine (A.bR ⟨uA c,rfl,show ((cP c).map (ir c)).length<=60 by simpa using aj,λt aH=>?_⟩ _).trans (congrArg A.pure ?_)
 ·show ((v_ ((cP c).map (ir c)) f).getD (0,0),(v_ ((cP c).map (ir c)) f).isSome)=_;rw[amP _ _ f v h]
 ·obtain⟨w,hw,rfl⟩:=List.mem_map.1 aH;exact⟨_,h w hw⟩
theorem amQ:∀ {l:z1'},(ye l).isSome=!l.isEmpty:=by
 intro l;have key:∀ (l:z1') (o:Option (Int×Int)),o.isSome=true->(l.foldl (λo n=>some (H8 o n)) o).isSome=true:=by
  intro l;induction l with
  | nil=>intro o h;exact h
  | cons n l aJ=>intro o _;exact aJ _ rfl
 cases l with
 | nil=>rfl
 | cons n l=>exact key l _ rfl
theorem Ep{c:aZ}{f:Option d'->A Bool}{b:Bool}(h:gI c)(ao:cw c=0->f (some (c,fu c,[]))=A.pure b):v8.sh (c,f)=A.pure (sZ c b):=by
 refine (A.bR ⟨h,λhc=>⟨b,ao hc⟩⟩ _).trans (congrArg A.pure ?_);show sZ c (El c f)=sZ c b;unfold sZ El;by_cases hc:cw c=0
 ·rw[ao hc,A.fB]
 ·simp[hc]
theorem Er{c:aZ}(h:gI c)(hc:cw c=0):(cP c).length<=60:=Nat.le_trans (OA c _ _) (h.2 hc)
theorem wa{c:aZ}{w:z1'}(h:w∈cP c):iQ c w=true:=OB c _ _ _ h
abbrev A2:aK:=⟨.ay ho (.bH bu),dd,λx=>∃ k:Int,x.2=some k/\True,λx=>decide (lz x.1=x.2.getD 0)&&decide (eo x.1=1)⟩
theorem amR(x):A.le (akO x) (A2.sh x):=A.bq λ_=>rfl
abbrev OS:aK:=⟨.ay (.bH sM) (.bH bu),dd,λx=>∃ (b:d') (k:Int),x.2=some k/\x.1=some b/\b.2.1.length<2 ^ 63,λx=>(x.1.getD (uz,[],[])).2.1.any λs=>lz s == x.2.getD 0&&eo s == 1⟩
theorem amS(x):A.le (WE (jd ho).sh A2.sh x) (OS.sh x):=A.bq λh=>by
 obtain⟨o,k⟩:=x;obtain⟨b,_,_,W,h⟩:=h;change o=some b at W;subst W;unfold WE;simp only[Option.isSome_some,A.bp,Option.getD_some];have ae:∀ s,A2.sh (s,some (k.getD 0))=A.pure (decide (lz s=k.getD 0)&&decide (eo s=1)):=λs=>A.bR ⟨_,rfl,trivial⟩ _;rw[show (jd ho).sh (b.2.1,λs=>A2.sh (s,some (k.getD 0)))=A.pure (b.2.1.any λs=>(A2.sh (s,some (k.getD 0))).val false) from A.bR ⟨h,λs _=>⟨_,ae s⟩⟩ _,A.aF];refine congrArg A.pure ?_;show _=b.2.1.any λs=>lz s == k.getD 0&&eo s == 1;refine congrArg (λp=>b.2.1.any p) ?_;funext s;rw[ae,A.fB];rw[Bool.eq_iff_iff];simp
theorem X0{f:Int->A Int}{n:Int}:∀ (L:List bA),(∀ p∈L,p.1.1=n->∃ v,f p.2=A.pure v)->
  jL (λ(D:Int×(Int->A Int)×Int×Bool×Unit) (y:a_×Int)=>A.bind (if decide (y.1.1=D.1)=true then A.bind (D.2.1 y.2) λy=>A.pure (di.ret,y,true,()) else A.pure
 (di.normal,D.2.2.1,D.2.2.2.1,())) λp=>A.pure (p.1,D.1,D.2.1,p.2.1,p.2.2.1,())) L (n,f,0,false,())=(L.find? λp=>p.1.1 == n).elim (A.pure (di.normal,n,f,0,false,())) λp=>A.pure (di.ret,n,f,(f p.2).val 0,true,())
 | [],_=>rfl
 | p::L,h=>by
  unfold jL;by_cases an:p.1.1=n
  ·obtain⟨v,ae⟩:=h p (by simp) an;simp[an,ae]
  ·have aJ:=X0 L λq br=>h q (by simp[br]);simp only[an,decide_false,Bool.false_eq_true,if_false,A.aF];rw[aJ,List.find?_cons_of_neg (by simpa using an)]
abbrev OT:aK:=⟨.ay (.bH x8) (.ay (.bH (.bH sM)) (.ay (.bH bu) (.bH (.fn bu bu)))),.ay bu .bool,λx=>∃ (t:dQ) (b:d') (n:Int) (f:Int->A Int),x=(some t,some (some b),some n,some f)/\En b.1 t.2/\∀ p∈pG b.1 t.2,p.1.1=n->∃ v,f p.2=A.pure v,λx=>((pG ((x.2.1.getD none).getD (uz,[],[])).1 (x.1.getD ([],[])).2).find? λp=>p.1.1 == x.2.2.1.getD 0).elim (0,false) λp=>(((x.2.2.2.getD λ_=>A.fail) p.2).val 0,true)⟩
theorem amT(x):A.le (WG AY.sh x) (OT.sh x):=A.sG λh=>by
 obtain⟨t,b,n,f,rfl,E,U⟩:=h;unfold WG;simp only[Option.getD_some];rw[show AY.sh (some b,some t)=A.pure (s3 (some (some t),some (some b))) from rfl,A.aF,A.gg];refine⟨⟨_,t,b,rfl,rfl,E,rfl⟩,λL iK=>?_⟩;obtain⟨cX,be,aw,aN,_,rfl⟩:=iK;cases aw;cases aN;rw[X0 (f:=f) (n:=n) _ U];show A.cx _ λy=>y=((pG b.1 t.2).find? λp=>p.1.1 == n).elim (0,false) λp=>((f p.2).val 0,true)
 cases (pG b.1 t.2).find? λp=>p.1.1 == n with
 | none=>simp only[Option.elim,A.aF,sq];exact A.ea.2 rfl
 | some p=>simp only[Option.elim,A.aF,sq];exact A.ea.2 rfl
abbrev A3:aK:=⟨.ay iN (.ay bu (.fn bu bu)),.ay mD bu,λx=>gI x.1/\∀ w∈cP x.1,∀ m,cw x.1=0->jT x.1 w x.2.1=some m->∃ v,x.2.2 m=A.pure v,λx=>(uw ((lC x.1 x.2.1).1.map λm=>(x.2.2 m).val 0),(lC x.1 x.2.1).2)⟩
theorem amU(x):A.le (Wn v8.sh AX.sh OS.sh OT.sh x) (A3.sh x):=A.bq λh=>by
 obtain⟨c,n,f⟩:=x;obtain⟨h,ao⟩:=h;change gI c at h;change ∀ w∈cP c,∀ m,cw c=0->jT c w n=some m->∃ v,f m=A.pure v at ao;unfold Wn;show _=A.pure (uw ((lC c n).1.map λm=>(f m).val 0),(lC c n).2);unfold lC;rw[Ep (b:=AT c n) h λhc=>A.bR ⟨(c,fu c,[]),n,rfl,rfl,by have:=(oU hc).Ow;show (fu c).length<2 ^ 63;omega⟩ _];rcases A1 c (AT c n) with⟨E,U,ag⟩ | ⟨E,U,ag,a1⟩
 ·rw[ag];simp only[A.aF];rw[if_pos (by simpa using E),if_pos E];rfl
 ·rw[E,a1];simp only[A.aF];rw[if_neg (by simp)];have aB:=oU U;rw[OR (v:=λw=>(jT c w n).elim (0,false) λm=>((f m).val 0,true)) (Er h U) λw hw=>?_,A.aF]
  ·have e:((cP c).filterMap λw=>if ((jT c w n).elim ((0,false):Int×Bool) λm=>((f m).val 0,true)).2=true then some ((jT c w n).elim ((0,false):Int×Bool) λm=>((f m).val 0,true)).1 else none)=((cP c).filterMap λw=>jT c w n).map λm=>(f m).val 0:=by
    rw[List.map_filterMap];refine OQ λw _=>?_;cases jT c w n<;>rfl
   rw[e,amQ];generalize (cP c).filterMap (λw=>jT c w n)=l;cases l with
   | nil=>rfl
   | cons m l=>simp;rfl
  ·have aH:=wa hw;have vk:=OL aH n;refine (A.bR ⟨(w,ni c w),uA c,n,f,rfl,XS aB aH,λp an X1=>?_⟩ _).trans (congrArg A.pure ?_)
   ·show ((nk c w).find? λp=>p.1.1 == n).elim (0,false) (λp=>((f p.2).val 0,true))=_;rw[vk];cases (nk c w).find? λp=>p.1.1 == n<;>rfl
   ·refine ao w hw p.2 U ?_;rw[vk];have hex:((nk c w).find? λq=>q.1.1 == n).isSome=true:=List.find?_isSome.2 ⟨p,an,by simpa using X1⟩;obtain⟨q,br⟩:=Option.isSome_iff_exists.1 hex;have Eo:q.1.1=n:=by have:=List.find?_some br;simpa using this
    have v':=List.mem_of_find?_eq_some br;have aD:q.1=p.1:=ON (A0 v') (A0 an) (Eo.trans X1.symm);have:q=p:=AZ (OP c w) v' an aD;rw[br,this];rfl
abbrev yh:aK:=⟨bu,bu,λ_=>True,λx=>x⟩
theorem amV(x):A.le (akD x) (yh.sh x):=A.bq λ_=>rfl
theorem amW(x):A.le (Wb A3.sh yh.sh x) (H_.sh x):=A.bq λh=>by
 obtain⟨c,n⟩:=x;change gI c at h;unfold Wb;rw[show A3.sh (c,n,yh.sh)=A.pure (uw ((lC c n).1.map λm=>(yh.sh m).val 0),(lC c n).2) from A.bR ⟨h,λ_ _ m _ _=>⟨m,rfl⟩⟩ _];simp only[A.aF];show _=A.pure (H9 c n);unfold H9;have:((lC c n).1.map λm=>(yh.sh m).val 0)=(lC c n).1:=by
  have:(λm:Int=>(yh.sh m).val 0)=λm=>m:=by
   funext m;exact A.fB
  rw[this,List.map_id']
 rw[this]
abbrev yi:aK:=⟨.ay bu (.bH iN),bu,λx=>∃ c:aZ,x.2=some c/\yd (c.2.2.2.2,x.1),λx=>lB (x.2.getD uz).2.2.2.2 x.1⟩
theorem amX(x):A.le (Wo vZ.sh x) (yi.sh x):=A.bq λh=>by
 obtain⟨m,q⟩:=x;obtain⟨c,hc,h⟩:=h;change q=some c at hc;subst hc;unfold Wo;simp only[Option.getD_some];rw[show vZ.sh (c.2.2.2.2,m)=A.pure (lB c.2.2.2.2 m) from A.bR h _,A.aF]
theorem X2{c:aZ}(aB:gY c){w:z1'}(hw:iQ c w=true){n m:Int}(hm:jT c w n=some m):yi.sh (m,some c)=A.pure (lB c.2.2.2.2 m):=by
 have:=XD aB (Eh aB.Ou hw) hm;exact A.bR ⟨c,rfl,aB.Ov,show -100000<=m by omega,show m<=20000 by omega⟩ _
theorem amY{c:aZ}{n m:Int}(hm:m∈(lC c n).1):cw c=0/\∃ w,iQ c w=true/\w∈cP c/\jT c w n=some m:=by
 unfold lC at hm;split at hm
 ·simp at hm
 ·split at hm
  ·simp at hm
  ·rw[List.mem_filterMap]at hm;obtain⟨w,hw,he⟩:=hm;obtain⟨E,U,ag,_⟩:=amd hw;exact⟨E,w,ag,U,he⟩
theorem amZ(x):A.le (Wa A3.sh yi.sh x) (AV.sh x):=A.bq λh=>by
 obtain⟨c,n⟩:=x;change gI c at h;unfold Wa;rw[show A3.sh (c,n,λm=>yi.sh (m,some c))=A.pure (uw ((lC c n).1.map λm=>(yi.sh (m,some c)).val 0),(lC c n).2) from A.bR ⟨h,λw hw m hc hm=>⟨_,X2 (oU hc) (wa hw) hm⟩⟩ _];simp only[A.aF];show _=A.pure (AU c n);unfold AU;have:((lC c n).1.map λm=>(yi.sh (m,some c)).val 0)=(lC c n).1.map λm=>lB c.2.2.2.2 m:=by
  refine List.map_congr_left λm hm=>?_;obtain⟨hc,w,hw,_,he⟩:=amY hm;rw[X2 (oU hc) hw he,A.fB]
 rw[this]
abbrev OU:aK:=⟨.ay (.bH sM) (.bH bu),dd,λx=>∃ k:Int,x.2=some k/\True,λx=>b3 (x.2.getD 0) 0 99⟩
theorem am0(x):A.le (Wt vP.sh x) (OU.sh x):=A.bq λ_=>by
 unfold Wt;rw[show vP.sh (x.2.getD 0)=A.pure (b3 (x.2.getD 0) 0 99) from rfl,A.aF]
abbrev OV:aK:=⟨.ay (.bH x8) (.ay (.bH (.bH sM)) (.ay (.bH bu) (.bH iN))),.ay bu .bool,λx=>∃ (t:dQ) (b:d') (n:Int) (c:aZ),x=(some t,some (some b),some n,some c)/\En b.1 t.2/\(pG b.1 t.2).length<=1000/\∀ p∈pG b.1 t.2,yd (c.2.2.2.2,p.2),λx=>(((pG ((x.2.1.getD none).getD (uz,[],[])).1 (x.1.getD ([],[])).2).map (uB (x.2.2.2.getD uz) (x.2.2.1.getD 0))).sum,true)⟩
theorem OW{c:aZ}{n:Int}:∀ (L:List bA) (a:Int),(∀ p∈L,yd (c.2.2.2.2,p.2))->0<=a->a+100000*(L.length:Int)<=1000000000->
  jL (λ(D:Int×aZ×Int×Unit) (y:a_×Int)=>A.bind (if decide (y.1.2.2.2.2.2=D.1)=true then A.ab (vZ.sh (D.2.1.2.2.2.2,y.2)).ck (A.pure (di.normal,IntKind.wrap
 .i64 (Add.add D.2.2.1 (A.val (vZ.sh (D.2.1.2.2.2.2,y.2)) 0)),())) else A.pure (di.normal,D.2.2.1,())) λp=>A.pure (p.1,D.1,D.2.1,p.2.1,())) L (n,c,a,())=A.pure (di.normal,n,c,a+(L.map (uB c n)).sum,())
 | [],a,_,_,_=>by simp[jL]
 | p::L,a,h,aX,E=>by
  unfold jL;simp only[List.length_cons]at E;by_cases an:p.1.2.2.2.2.2=n
  ·have W:=al2 (h p (by simp));have ae:vZ.sh (c.2.2.2.2,p.2)=A.pure (lB c.2.2.2.2 p.2):=A.bR (h p (by simp)) _;have hw:=bz (n:=a+lB c.2.2.2.2 p.2) (by omega) (by omega);have aJ:=OW (c:=c) (n:=n) L (a+lB c.2.2.2.2 p.2) (λq br=>h q (by simp[br])) (by omega) (by omega);simp only[an,decide_true,if_true,ae,A.iT,A.fB,A.bp,ch,hw,A.aF];simp only[ch]at aJ;rw[aJ,List.map_cons,List.sum_cons];rw[show uB c n p=lB c.2.2.2.2 p.2 from if_pos an];rw[Int.add_assoc]
  ·have aJ:=OW (c:=c) (n:=n) L a (λq br=>h q (by simp[br])) aX (by omega);simp only[an,decide_false,Bool.false_eq_true,if_false,A.aF];rw[aJ,List.map_cons,List.sum_cons];rw[show uB c n p=0 from if_neg an,Int.zero_add]
theorem am1(x):A.le (Wv vZ.sh AY.sh x) (OV.sh x):=A.sG λh=>by
 obtain⟨t,b,n,c,rfl,E,U,ag⟩:=h;unfold Wv;simp only[Option.getD_some];rw[show AY.sh (some b,some t)=A.pure (s3 (some (some t),some (some b))) from rfl,A.aF,A.gg];refine⟨⟨_,t,b,rfl,rfl,E,rfl⟩,λL iK=>?_⟩;obtain⟨cX,be,aw,aN,_,rfl⟩:=iK;cases aw;cases aN;rw[OW _ 0 ag (by omega) (by omega)];show A.cx _ λy=>y=(((pG b.1 t.2).map (uB c n)).sum,true)
 simp only[A.aF,sq,Int.zero_add];exact A.ea.2 rfl
theorem X3(cl:z4'):∀ l:List bA,(dz cl l).length<=l.length
 | []=>by simp[dz]
 | [_]=>by simp[dz]
 | a::b::r=>by unfold dz;simp only[List.length_cons];have:=X3 cl r;omega
theorem am2{c:aZ}(aB:gY c)(w:z1'):(nk c w).length<=1000:=by
 rw[Ih];have:=Oz (λu=>dz c.2.2.2.1 (b7 c w u)) 12 (eh 0 9) λu _=>Nat.le_trans (X3 _ _) (Ec aB w u);rw[show (eh 0 9).length=10 from by decide]at this;omega
theorem am3{c:aZ}(aB:gY c){w:z1'}(hw:iQ c w=true){p:bA}(an:p∈nk c w):yd (c.2.2.2.2,p.2):=by
 have hex:((nk c w).find? λq=>q.1.1 == p.1.1).isSome=true:=List.find?_isSome.2 ⟨p,an,by simp⟩;obtain⟨q,br⟩:=Option.isSome_iff_exists.1 hex;have Eo:q.1.1=p.1.1:=by have:=List.find?_some br;simpa using this
 have v':=List.mem_of_find?_eq_some br;have:q=p:=AZ (OP c w) v' an (ON (A0 v') (A0 an) Eo);have ae:jT c w p.1.1=some p.2:=by rw[OL hw,br,this];rfl
 have:=XD aB (Eh aB.Ou hw) ae;exact⟨aB.Ov,show -100000<=p.2 by omega,show p.2<=20000 by omega⟩
theorem am4(x):A.le (Wd v8.sh AX.sh OU.sh OV.sh x) (Ib.sh x):=A.bq λh=>by
 obtain⟨c,g⟩:=x;change gI c at h;unfold Wd;show _=A.pure (Ia c g);unfold Ia;rw[Ep (b:=b3 g 0 99) h λhc=>A.bR ⟨g,rfl,trivial⟩ _];rcases A1 c (b3 g 0 99) with⟨E,U,ag⟩ | ⟨E,U,ag,a1⟩
 ·rw[U,ag];simp only[A.aF,List.map_nil,XY];rw[if_pos (by simpa using E)]
 ·rw[E,a1];simp only[A.aF];rw[if_neg (by simp)];have aB:=oU U;rw[OR (v:=λw=>(H6 c w g,true)) (Er h U) λw hw=>?_,A.aF,XZ]
  ·rfl
  ·have aH:=wa hw;refine (A.bR ⟨(w,ni c w),uA c,g,c,rfl,XS aB aH,am2 aB w,λp an=>am3 aB aH an⟩ _).trans (congrArg A.pure ?_);show (((nk c w).map (uB c g)).sum,true)=_;rw[amO aH]
def mF(t:Int):List bA->bA×Bool->bA×Bool
 | [],b=>b
 | e::l,b=>mF t l (if e.2<=t then (e,decide (eo e.1=1)) else b)
def g_(l:List bA)(t:Int):bA×Bool:=mF t l (bG,false)
theorem X4{t:Int}{e:bA}{l:List bA}{b:bA×Bool}(h:e.2<=t):mF t (e::l) b=mF t l (e,decide (eo e.1=1)):=by rw[mF,if_pos h]
theorem X5{t:Int}{e:bA}{l:List bA}{b:bA×Bool}(h:¬e.2<=t):mF t (e::l) b=mF t l b:=by rw[mF,if_neg h]
theorem X6(t:Int):∀ (l:List bA) (b:bA×Bool),l.foldl (λb e=>if e.2<=t then (e,decide (eo e.1=1)) else b) b=mF t l b
 | [],_=>rfl
 | e::l,b=>X6 t l _
theorem am5(l:List bA)(t:Int)(h:∀ e∈l,eo e.1=1\/eo e.1=2):ng l t=(if (g_ l t).2=true then iO (g_ l t).1.1 else -1,(g_ l t).1.2):=by
 have key:∀ (l:List bA) (b:bA×Bool),(∀ e∈l,eo e.1=1\/eo e.1=2)->l.foldl (λb e=>if e.2<=t then (if eo e.1=2 then (-1,e.2) else (iO e.1,e.2)) else b) (if b.2=true then iO b.1.1 else -1,b.1.2)=(if (mF t l b).2=true then iO (mF t l b).1.1 else -1,(mF t l b).1.2):=by
  intro l;induction l with
  | nil=>intro b _;rfl
  | cons e l aJ=>
   intro b h;rw[List.foldl_cons];by_cases he:e.2<=t
   ·rw[X4 he,<-aJ (e,decide (eo e.1=1)) λx ah=>h x (by grind),if_pos he];grind
   ·rw[X5 he,if_neg he];grind
 exact key l (bG,false) h
theorem X7(l:List bA)(t:Int):g_ l t=(bG,false)\/((g_ l t).1∈l/\(g_ l t).1.2<=t/\(g_ l t).2=decide (eo (g_ l t).1.1=1)):=by
 have key:∀ (l:List bA) (b:bA×Bool),mF t l b=b\/((mF t l b).1∈l/\(mF t l b).1.2<=t/\(mF t l b).2=decide (eo (mF t l b).1.1=1)):=by
  intro l;induction l with
  | nil=>intro b;exact .inl rfl
  | cons e l aJ=>
   intro b;by_cases he:e.2<=t
   ·rw[X4 he];grind
   ·rw[X5 he];grind
 exact key l (bG,false)
abbrev OX(t:dQ):Prop:=t.2.length=10/\∀ l∈t.2,l.length<=12
abbrev yj:aK:=⟨.ay (.bH x8) (.ay bu bu),.ay HP .bool,λx=>∃ t:dQ,x.1=some t/\OX t/\0<=x.2.1/\x.2.1<=9,λx=>g_ ((x.1.getD ([],[])).2.getD x.2.1.toNat []) x.2.2⟩
theorem am6(x):A.le (Wl x) (yj.sh x):=A.bq λh=>by
 obtain⟨o,u,m⟩:=x;obtain⟨t,E,⟨U,ag⟩,a1,bL⟩:=h;change o=some t at E;change 0<=u at a1;change u<=9 at bL;subst E;unfold Wl;show _=A.pure (g_ (t.2.getD u.toNat []) m);simp only[Option.isSome_some,A.bp,Option.getD_some];rw[A.bt (show (0:Int)<=u/\u<Int.ofNat 10 by grind)];have hm:t.2.getD u.toNat []∈t.2:=x1 a1 (by omega);have aj:=ag _ hm;generalize t.2.getD u.toNat []=l at *
 rw[A.dt l (λi (b:bA×Bool)=>(m,b.2,l,(l.length:Int),(i:Int),bG,b.1,())) (λe b=>.next (if e.2<=m then (e,decide (eo e.1=1)) else b)) (λb=>.next (b.2,bG,b.1,())) (bG,false) ?_ ?_ ?_]
 ·rw[dP,A.aF,X6];rfl
 ·rfl
 ·intro i G b;have hw:=bz (n:=(i:Int)+1) (by omega) (by omega);simp only[Prod.c_,Prod.fs,bV,cU G,if_true,df G,cM G,A.bp,ch,hw,V.hl,decide_eq_true_eq];by_cases he:l[i].2<=m
  ·simp_all
  ·simp only[he,if_false,A.aF,A.bY,hw];rfl
 simp
theorem X8(c:aZ)(w:z1'){u:Int}(aX:0<=u)(h:u<=9):(ni c w).getD u.toNat []=b7 c w u:=by
 have hu:u=0\/u=1\/u=2\/u=3\/u=4\/u=5\/u=6\/u=7\/u=8\/u=9:=by omega
 rcases hu with rfl | rfl | rfl | rfl | rfl | rfl | rfl | rfl | rfl | rfl<;>rfl
theorem X9{c:aZ}(aB:gY c)(w:z1'):OX (w,ni c w):=by
 refine⟨rfl,λl aj=>?_⟩;simp only[ni,List.mem_cons,List.not_mem_nil,or_false]at aj;rcases aj with rfl | rfl | rfl | rfl | rfl | rfl | rfl | rfl | rfl | rfl<;>exact Ec aB w _
theorem X_{c:aZ}(aB:gY c)(w:z1'){u t:Int}(aX:0<=u)(h:u<=9):yj.sh (ir c w,u,t)=A.pure (g_ (b7 c w u) t):=by
 refine (A.bR ⟨_,rfl,X9 aB w,aX,h⟩ _).trans (congrArg A.pure ?_);show g_ ((ni c w).getD u.toNat []) t=_;rw[X8 c w aX h]
theorem am7{c:aZ}(aB:gY c){w:z1'}{u:Int}{e:bA}(he:e∈b7 c w u):eo e.1=1\/eo e.1=2/\iO e.1=0:=(AO.1 (aB.AP (Ed he).1)).2.2.2.2.2
theorem OY{c:aZ}(aB:gY c){w:z1'}{u:Int}{e:bA}(he:e∈b7 c w u):0<=iO e.1/\iO e.1<=99:=(AO.1 (aB.AP (Ed he).1)).2.2.2.2.1
theorem Ii{c:aZ}(aB:gY c){w:z1'}(hw:iQ c w=true){u:Int}(hu:0<=u/\u<=9)(t:Int):ng (gZ c w u) t=(if (g_ (b7 c w u) t).2=true then iO (g_ (b7 c w u) t).1.1 else -1,(g_ (b7 c w u) t).1.2)/\(decide ((ng (gZ c w u) t).1>=0)=(g_ (b7 c w u) t).2):=by
 have e:=am5 (b7 c w u) t λe he=>(am7 aB he).imp id And.left;rw[OK hw hu];refine⟨e,?_⟩;rw[e];cases W:(g_ (b7 c w u) t).2 with
 | false=>simp
 | true=>
  simp only[if_true,decide_eq_true_eq];rcases X7 (b7 c w u) t with h | ⟨h,_⟩
  ·grind
  ·exact (OY aB h).1
abbrev A4:aK:=⟨.ay (.bH sM) (.bH bu),dd,λx=>∃ k:Int,x.2=some k/\True,λx=>b3 (x.2.getD 0) 0 9999⟩
theorem X'(x):A.le (Wq x'.sh x) (A4.sh x):=A.bq λ_=>by
 unfold Wq;rw[show x'.sh (x.2.getD 0)=A.pure (b3 (x.2.getD 0) 0 9999) from rfl,A.aF]
theorem am8(x):A.le (akL x'.sh x) (A4.sh x):=X' x
def Es(t:dQ)(m p:Int):Int:=(eh 0 9).foldl (λn u=>if (g_ (t.2.getD u.toNat []) m).2=true then n+p else n) 0
abbrev OZ:aK:=⟨.ay (.bH x8) (.ay (.bH bu) (.bH iN)),.ay bu .bool,λx=>∃ (t:dQ) (m:Int) (c:aZ),x=(some t,some m,some c)/\OX t/\0<=c.2.2.2.2.2.2.2.2.2.2/\c.2.2.2.2.2.2.2.2.2.2<=100000,λx=>(Es (x.1.getD ([],[])) (x.2.1.getD 0) (x.2.2.getD uz).2.2.2.2.2.2.2.2.2.2,true)⟩
theorem am9(x):A.le (Ws yj.sh x) (OZ.sh x):=A.bq λh=>by
 obtain⟨t,m,c,rfl,E,U,ag⟩:=h;unfold Ws;simp only[Option.getD_some];show _=A.pure (Es t m c.2.2.2.2.2.2.2.2.2.2,true);rw[A.f_ (eh 0 9) (λi (n:Int)=>(some t,m,c,n,(i:Int),())) (λu n=>.next (if (g_ (t.2.getD u.toNat []) m).2=true then n+c.2.2.2.2.2.2.2.2.2.2 else n)) (λn=>.next (n,())) (λi n=>0<=n/\n<=100000*(i:Int)) 0 ?_ ?_ ?_ ?_]
 ·rw[dP,A.aF];rfl
 ·rfl
 ·omega
 ·intro i G n aA;have G:i<10:=by simpa [eh]using G
  have hw:=bz (n:=(i:Int)+1) (by omega) (by omega);have gW:=bz (n:=n+c.2.2.2.2.2.2.2.2.2.2) (by omega) (by omega);have au:decide ((i:Int)<10)=true:=by grind
  refine⟨?_,λbe db=>?_⟩
  ·simp only[au,if_true,An,Int.zero_add];rw[show yj.sh (some t,(i:Int),m)=A.pure (g_ (t.2.getD ((i:Int)).toNat []) m) from A.bR ⟨t,rfl,E,by simp,by grind⟩ _];simp only[A.aF,ch,hw,gW,V.hl];by_cases al:(g_ (t.2.getD ((i:Int)).toNat []) m).2=true
   ·simp only[al,if_true,A.aF,A.bY,hw];rfl
   ·simp only[al,Bool.false_eq_true,if_false,A.aF,A.bY,hw];rfl
  grind
 ·intro n aA;have:(eh 0 9).length=10:=by decide
  simp[this]
theorem am_{c:aZ}(aB:gY c){w:z1'}(hw:iQ c w=true)(m:Int):Es (w,ni c w) m c.2.2.2.2.2.2.2.2.2.2=H5 c w m*c.2.2.2.2.2.2.2.2.2.2:=by
 unfold Es H5;have key:∀ (L:z1') (n:Int),(∀ u∈L,0<=u/\u<=9)->L.foldl (λn u=>if (g_ ((ni c w).getD u.toNat []) m).2=true then n+c.2.2.2.2.2.2.2.2.2.2 else n) (n*c.2.2.2.2.2.2.2.2.2.2)=(L.foldl (λn u=>if (ng (gZ c w u) m).1>=0 then n+1 else n) n)*c.2.2.2.2.2.2.2.2.2.2:=by
  intro L;induction L with
  | nil=>simp
  | cons u L aJ=>
   intro n h;have hu:=h u (by simp);obtain⟨_,U⟩:=Ii aB hw hu m;simp only[List.foldl_cons];rw[X8 c w hu.1 hu.2];grind
 have:=key (eh 0 9) 0 λu hu=>sI.1 hu;grind
theorem am'(x):A.le (Wc v8.sh AX.sh A4.sh OZ.sh x) (Ie.sh x):=A.bq λh=>by
 obtain⟨c,t⟩:=x;change gI c at h;unfold Wc;show _=A.pure (Ic c t);unfold Ic;rw[Ep (b:=b3 t 0 9999) h λhc=>A.bR ⟨t,rfl,trivial⟩ _];rcases A1 c (b3 t 0 9999) with⟨E,U,ag⟩ | ⟨E,U,ag,a1⟩
 ·rw[U,ag];simp only[A.aF,List.map_nil,XY];grind
 ·rw[E,a1];simp only[A.aF];rw[if_neg (by simp)];have aB:=oU U;have an:=(H4.1 aB.Ov).2.2.2.2.2.2;rw[OR (v:=λw=>(H5 c w t*c.2.2.2.2.2.2.2.2.2.2,true)) (Er h U) λw hw=>?_,A.aF,XZ]
  ·rfl
  ·refine (A.bR ⟨(w,ni c w),t,c,rfl,X9 aB w,an.1,an.2⟩ _).trans (congrArg A.pure ?_);show (Es (w,ni c w) t c.2.2.2.2.2.2.2.2.2.2,true)=_;rw[am_ aB (wa hw)]
theorem Ya(p:Int×Int)(m:z4')(k v:Int):fc (p::m) k v=if decide (k=p.1)=true then (p.1,v)::m else p::fc m k v:=rfl
theorem O0(k v:Int):∀ m:z4',((m.map (·.1)).Nodup->((fc m k v).map (·.1)).Nodup)/\∀ x,x∈(fc m k v).map (·.1)<->x∈m.map (·.1)\/x=k
 | []=>by
  rw[show fc [] k v=[(k,v)] from rfl];simp
 | p::m=>by
  obtain⟨E,U⟩:=O0 k v m;rw[Ya];grind
theorem Yb(k v:Int){B:Int}:∀ m:z4',(∀ p∈m,0<=p.2/\p.2<=B)->0<=v/\v<=B->∀ p∈fc m k v,0<=p.2/\p.2<=B
 | [],_,ae,p,an=>by
  rw[show fc [] k v=[(k,v)] from rfl,List.mem_singleton]at an;grind
 | q::m,h,ae,p,an=>by
  rw[Ya]at an;split at an
  ·grind
  ·rcases List.mem_cons.1 an with rfl | an
   ·grind
   ·exact Yb k v m (λx ah=>h x (by grind)) ae p an
def lD(c:aZ)(w:z1')(u t:Int):Int:=if (g_ (b7 c w u) t).2=true then iO (g_ (b7 c w u) t).1.1 else -1
def yk(m:z4')(k:Int):Int:=Option.getD (Option.map (λx=>x.2) (List.find? (λp=>decide (k=p.1)) m)) 0
structure A5(L:z1')(i:Nat)(m:z4'):Prop where
 mx:(m.map (·.1)).Nodup
 mem:∀ x,x∈m.map (·.1)<->x∈L
 val:∀ p∈m,0<=p.2/\p.2<=(i:Int)
theorem A5.add{L:z1'}{i:Nat}{m:z4'}(h:A5 L i m)(k:Int)(G:i<=60):IntKind.wrap .i64 (yk m k+1)=yk m k+1/\A5 (L++[k]) (i+1) (fc m k (yk m k+1)):=by
 have W:0<=yk m k/\yk m k<=(i:Int):=by
  unfold yk;cases ao:m.find? λp=>decide (k=p.1) with
  | none=>simp
  | some p=>exact h.val p (List.mem_of_find?_eq_some ao)
 refine⟨bz (by omega) (by omega),(O0 _ _ _).1 h.mx,λx=>?_,Yb _ _ _ (λp an=>by have:=h.val p an;omega) (by omega)⟩;rw[(O0 _ _ _).2,h.mem];simp
theorem ana{c:aZ}(aB:gY c){w:z1'}(hw:iQ c w=true){u:Int}(hu:0<=u/\u<=9):((b7 c w u).filter λe=>eo e.1 == 1).length<=11:=by
 have aj:=Ec aB w u;by_cases ayr:(b7 c w u).length=12
 ·have E:=(OJ (H7 hw hu) (by omega:1<(b7 c w u).length)).1;have E:eo (b7 c w u)[1].1=2:=E;have hm:=List.getElem_mem (by omega:1<(b7 c w u).length);have:((b7 c w u).filter λe=>eo e.1 == 1).length<(b7 c w u).length:=by
   refine List.length_filter_lt_length_iff_exists.2 ⟨_,hm,by grind⟩
  omega
 grind
theorem anb(c:aZ)(w w':z1')(u:Int):(((b7 c w u).filter λe=>eo e.1 == 1).map (·.1)).Perm (((b7 c w' u).filter λe=>eo e.1 == 1).map (·.1)):=by
 have e:∀ w,((b7 c w u).filter λe=>eo e.1 == 1).map (·.1)=((b7 c w u).map (·.1)).filter λs=>eo s == 1:=λw=>by rw[List.filter_map];rfl
 rw[e,e];exact ((OO c w u).trans (OO c w' u).symm).filter _
theorem O1(c:aZ)(w:z1')(u t:Int):lD c w u t=-1\/∃ s∈((b7 c w u).filter λe=>eo e.1 == 1).map (·.1),lD c w u t=iO s:=by
 unfold lD;rcases X7 (b7 c w u) t with h | ⟨E,U,ag⟩
 ·left;rw[h];rfl
 ·by_cases W:(g_ (b7 c w u) t).2=true
  ·right;rw[if_pos W];rw[ag]at W;exact⟨_,List.mem_map.2 ⟨_,List.mem_filter.2 ⟨E,by simpa using W⟩,rfl⟩,rfl⟩
  ·left;rw[if_neg W]
theorem anc{c:aZ}(aB:gY c){u t:Int}(hu:0<=u/\u<=9){K:z1'}(aA:K.Nodup)(iJ:∀ x∈K,x∈(cP c).map λw=>lD c w u t):K.length<=12:=by
 cases aU:cP c with
 | nil=>
  rw[aU]at iJ;cases K with
  | nil=>simp
  | cons x K=>have:=iJ x (by simp);grind
 | cons w0 T=>
  have Ai:iQ c w0=true:=wa (by grind);have q4:K ⊆ -1::(((b7 c w0 u).filter λe=>eo e.1 == 1).map (·.1)).map iO:=by
   intro x ah;obtain⟨w,hw,rfl⟩:=List.mem_map.1 (iJ x ah);rcases O1 c w u t with h | ⟨s,aD,h⟩
   ·grind
   ·rw[h];exact List.mem_cons_of_mem _ (List.mem_map_of_mem ((anb c w w0 u).mem_iff.1 aD))
  have:=aA.length_le_of_subset q4;have ays:=ana aB Ai hu;grind
abbrev O2:aK:=⟨.ay (.bH sM) (.ay (.bH bu) (.bH bu)),dd,λx=>∃ a b:Int,x.2=(some a,some b),λx=>v7 (x.2.1.getD 0) (x.2.2.getD 0)⟩
theorem ane(x):A.le (Wj cf.sh x'.sh x) (O2.sh x):=A.bq λ_=>by
 unfold Wj;rw[ame,A.aF,show x'.sh (x.2.2.getD 0)=A.pure (b3 (x.2.2.getD 0) 0 9999) from rfl,A.kE,A.aF,vJ];rfl
theorem Yc{c:aZ}(aB:gY c){w:z1'}(hw:iQ c w=true){u:Int}(hu:0<=u/\u<=9)(t:Int):(ng (gZ c w u) t).1=lD c w u t:=by rw[(Ii aB hw hu t).1];rfl
theorem anf(x):A.le (V_ v8.sh yj.sh sP.sh HY.sh O2.sh x) (If.sh x):=A.sG λh=>by
 obtain⟨c,u,t⟩:=x;change gI c at h;unfold V_;show A.cx _ λy=>y=rC c u t;unfold rC OC;rw[Ep (b:=v7 u t) h λhc=>A.bR ⟨u,t,rfl⟩ _];rcases A1 c (v7 u t) with⟨E,U,ag⟩ | ⟨E,U,ag,a1⟩
 ·rw[U,ag];simp only[A.aF];rw[if_pos (by grind)];refine A.ea.2 ?_;simp
 ·rw[E,a1];simp only[A.aF];rw[if_neg (by simp)];have aB:=oU U;have cL:(0<=u/\u<=9)/\0<=t/\t<=9999:=by
   unfold v7 at ag;rw[Bool.and_eq_true,oR,oR]at ag;exact ag
  have hu:=cL.1;have hlen:=Er h U;simp only[Option.isSome_some,A.bp,Option.getD_some];show A.cx (A.bind (A.loop _ ((cP c).map (ir c),_,0,u,t,[],())) _) _;rw[A.gg];refine (A.BP (p:=λz=>∃ m,z=.next (m,())/\A5 ((cP c).map λw=>lD c w u t) 60 m) (λD=>∃ (i:Nat) (m:z4'),i<=(cP c).length/\D=((cP c).map (ir c),(((cP c).map (ir c)).length:Int),(i:Int),u,t,m,())/\A5 (((cP c).take i).map λw=>lD c w u t) i m) (λD=>((cP c).length - D.2.2.1).toNat) ?_ _ ⟨0,[],Nat.zero_le _,rfl,⟨.nil,by simp,by simp⟩⟩).mono ?_
  ·rintro D ⟨i,m,oy,rfl,bo⟩;by_cases G:i<(cP c).length
   ·have dz:i<((cP c).map (ir c)).length:=by grind
    have hw:=bz (n:=(i:Int)+1) (by omega) (by omega);have hm:=List.getElem_mem G;obtain⟨b8,a2⟩:=bo.add (lD c (cP c)[i] u t) (by omega);have pD:((cP c).take (i+1)).map (λw=>lD c w u t)=((cP c).take i).map (λw=>lD c w u t)++[lD c (cP c)[i] u t]:=by
     rw[List.take_add_one,List.getElem?_eq_getElem G,Option.toList_some,List.map_append];rfl
    simp only[Prod.c_,bV,cU dz,if_true,df dz,cM dz,A.bp,List.getElem_map];rw[X_ aB _ hu.1 hu.2,A.aF];have fin:∀ k,k=lD c (cP c)[i] u t->(∃ (lf:Nat) (dx:z4'),lf<=(cP c).length/\(((cP c).map (ir c),(((cP c).map (ir c)).length:Int),IntKind.wrap .i64 ((i:Int)+1),u,t,fc m k (IntKind.wrap .i64 (yk m k+1)),()):List (Option dQ)×Int×Int×Int×Int×z4'×Unit)=((cP c).map (ir c),(((cP c).map (ir c)).length:Int),(lf:Int),u,t,dx,())/\A5 (((cP c).take lf).map λw=>lD c w u t) lf dx)/\((cP c).length - IntKind.wrap .i64 ((i:Int)+1)).toNat<((cP c).length - (i:Int)).toNat:=by
     grind
    cases W:(g_ (b7 c (cP c)[i] u) t).2 with
    | true=>
     simp only[if_true];rw[A.aF,A.bY];exact A.ea.2 (fin _ (by unfold lD;grind))
    | false=>
     simp only[Bool.false_eq_true,if_false];rw[A.aF,A.bY];exact A.ea.2 (fin (-1) (by unfold lD;grind))
   ·have ang:i=(cP c).length:=by omega
    subst ang;have au:decide (((cP c).length:Int)<(((cP c).map (ir c)).length:Int))=false:=by simp
    simp only[au,Bool.false_eq_true,if_false,A.aF];refine A.ea.2 ⟨m,rfl,bo.mx,?_,λp an=>by have:=bo.val p an;omega⟩;have:=bo.mem;grind
  ·rintro z ⟨m,rfl,bo⟩;rw[A.bY];rw[show HY.sh m=A.pure (jR (some m)) from rfl,A.aF];have anh:m.length<=12:=by
    have:=anc aB hu (t:=t) bo.mx λx ah=>(bo.mem x).1 ah;grind
   rw[show sP.sh (jR (some m))=A.pure (ft hq (m.map (·.1))) from (A.bR (Xh (by omega)) _).trans (congrArg A.pure Xi),A.aF];refine A.ea.2 ?_;have aw:ft hq (m.map (·.1))=(eh (-1) 99).filter λg=>((cP c).map λw=>(ng (gZ c w u) t).1).contains g:=by
    have ani:((cP c).map λw=>(ng (gZ c w u) t).1)=(cP c).map λw=>lD c w u t:=List.map_congr_left λw hw=>Yc aB (wa hw) hu t;rw[ani];have G:(eh (-1) 99).Pairwise (·<·):=by
     unfold eh;rw[List.pairwise_map];exact (List.pairwise_lt_range).imp λh=>by omega
    refine AD ((G.filter _).imp λh=>Int.le_of_lt h) ((List.perm_ext_iff_of_nodup bo.mx ((G.filter _).imp λh=>by omega)).2 λk=>?_);rw[bo.mem,List.mem_filter,sI];simp only[List.contains_iff_mem];refine⟨λal=>⟨?_,al⟩,λal=>al.2⟩;obtain⟨w,hw,rfl⟩:=List.mem_map.1 al;rcases O1 c w u t with h | ⟨s,aD,h⟩
    ·omega
    ·rw[h];obtain⟨e,he,rfl⟩:=List.mem_map.1 aD;have:=OY aB (List.mem_filter.1 he).1;omega
   rw[aw]
def O3(c:aZ)(l:List bA)(t:Int):Bool:=(g_ l t).2&&decide (l6 c.2.2.2.1 (g_ l t).1.2 t>=c.2.2.2.2.2.2.2.2.1)
theorem anj{c:aZ}(aB:gY c){w:z1'}(hw:iQ c w=true){u:Int}(hu:0<=u/\u<=9)(t:Int):O3 c (b7 c w u) t=Ei c w u t:=by
 obtain⟨E,U⟩:=Ii aB hw hu t;unfold O3 Ei;grind
theorem ank(x):A.le (Wh v8.sh yj.sh vY.sh A4.sh x) (Ig.sh x):=A.bq λh=>by
 obtain⟨c,t⟩:=x;change gI c at h;unfold Wh;show _=A.pure (sW c t);unfold sW;rw[Ep (b:=b3 t 0 9999) h λhc=>A.bR ⟨t,rfl,trivial⟩ _];rcases A1 c (b3 t 0 9999) with⟨E,U,ag⟩ | ⟨E,U,ag,a1⟩
 ·rw[ag];simp only[A.aF];grind
 ·rw[E,a1];simp only[A.aF];rw[if_neg (by simp),if_neg (by simp)];have aB:=oU U;have aH:=oR.1 ag;have hlen:=Er h U;have aU:∀ w∈cP c,iQ c w=true:=λw hw=>wa hw;rw[A.f_ (eh 0 9) (λi (b:z1'×z1')=>(some (uA c),(i:Int),c,t,b.1,b.2,())) (λu b=>.next (if decide (oV c (cP c) u t=(cP c).length)=true then b.1++[u] else b.1,if decide (oV c (cP c) u t > 0)=true then b.2++[u] else b.2)) (λb=>.next (b.1,b.2,())) (λi b=>b.1.length<=i/\b.2.length<=i) ([],[]) ?_ (by simp) ?_ ?_]
  ·rw[dP,A.aF,A.bY];have key:∀ (p q:Int->Bool) (l:z1') (a b:z1'),l.foldl (λ(z:z1'×z1') u=>(if p u=true then z.1++[u] else z.1,if q u=true then z.2++[u] else z.2)) (a,b)=(a++l.filter p,b++l.filter q):=by
    intro p q l;induction l with
    | nil=>simp
    | cons u l aJ=>
     intro a b;simp only[List.foldl_cons];rw[aJ];cases an:p u<;>cases br:q u<;>simp[an,br]
   rw[key (λu=>decide (oV c (cP c) u t=(cP c).length)) (λu=>decide (oV c (cP c) u t > 0))];simp
  ·rfl
  ·intro i G b iD;have G:i<10:=by simpa [eh]using G
   have hw:=bz (n:=(i:Int)+1) (by omega) (by omega);have au:decide ((i:Int)<10)=true:=by grind
   refine⟨?_,λbe db=>?_⟩
   ·simp only[au,if_true,An,Int.zero_add,Prod.c_,Option.isSome_some,A.bp,Option.getD_some];rw[A.f_ (cP c) (λk (n:Nat)=>(some (uA c),(i:Int),(n:Int),(i:Int),(cP c).map (ir c),(((cP c).map (ir c)).length:Int),(k:Int),c,t,b.1,b.2,())) (λw n=>.next (if Ei c w i t=true then n+1 else n)) (λn=>.next (some (uA c),(i:Int),(n:Int),(i:Int),c,t,b.1,b.2,())) (λk n=>n<=k) 0 ?_ (by simp) ?_ ?_]
    ·rw[dP];have key:∀ (l:List (z1')) (n:Nat),l.foldl (λn w=>if Ei c w i t=true then n+1 else n) n=n+oV c l i t:=by
      intro l;induction l with
      | nil=>intro n;rfl
      | cons w l aJ=>
       intro n;simp only[List.foldl_cons];rw[aJ];unfold oV;grind
     rw[key,Nat.zero_add,A.aF,A.bY];have BM:((cP c).map (ir c)).length=(cP c).length:=List.length_map _;simp only[Prod.c_,Prod.fs,Prod.gO,bV,Option.isSome_some,A.bp,Option.getD_some,BM];have e1:bP (Add.add b.1.length (Add.add 0 1)):=gb (by grind);have og:bP (Add.add b.2.length (Add.add 0 1)):=gb (by grind);have d1:decide ((oV c (cP c) i t:Int) > 0)=decide (oV c (cP c) i t > 0):=by simp
     have d2:decide ((oV c (cP c) i t:Int)=((cP c).length:Int))=decide (oV c (cP c) i t=(cP c).length):=by grind
     rw[d1];cases E:decide (oV c (cP c) i t > 0)<;>cases U:decide (oV c (cP c) i t=(cP c).length)<;>
      simp only[if_true,Bool.false_eq_true,if_false,A.bt e1,A.bt og,A.aF,A.bY,Option.isSome_some,A.bp,Option.getD_some,BM,d2,U,ch,hw,V.hl]<;>rfl
    ·rfl
    ·intro k al n aA;have rz:k<((cP c).map (ir c)).length:=by grind
     have hw:=bz (n:=(k:Int)+1) (by omega) (by omega);have gW:=bz (n:=(n:Int)+1) (by omega) (by omega);have kQ:=aU _ (List.getElem_mem al);have l7:=Eh U kQ;have hu:0<=(i:Int)/\(i:Int)<=9:=by omega
     have tN:=anj aB kQ hu t;obtain⟨cn,c7⟩:=Ii aB kQ hu t;refine⟨?_,λbe db=>?_⟩
     ·simp only[Prod.c_,Prod.fs,Prod.gO,Prod.iq,Prod.jQ,Prod.kX,bV,cU rz,if_true,df rz,cM rz,A.bp,ch,hw,List.getElem_map];rw[X_ aB _ hu.1 hu.2,A.aF,<-tN];unfold O3;cases W:(g_ (b7 c (cP c)[k] (i:Int)) t).2 with
      | true=>
       have Ch:AQ (c,(g_ (b7 c (cP c)[k] (i:Int)) t).1.2,t):=by
        have:=amf aB l7 aH.2 (u:=(i:Int)) (t:=t) (by grind);grind
       have anl:vY.sh (c,(g_ (b7 c (cP c)[k] (i:Int)) t).1.2,t)=A.pure (l6 c.2.2.2.1 (g_ (b7 c (cP c)[k] (i:Int)) t).1.2 t):=A.bR Ch _;simp only[anl,A.iT,A.fB,Bool.true_and,and_self,forall_const,A.bp,true_and];by_cases hm:l6 c.2.2.2.1 (g_ (b7 c (cP c)[k] (i:Int)) t).1.2 t>=c.2.2.2.2.2.2.2.2.1
       ·simp_all
       ·simp only[hm,decide_false,Bool.false_eq_true,if_false,A.aF,A.bY,hw,V.hl];rfl
      | false=>
       simp_all
     grind
    simp
   grind
  ·intro b iD;rfl
def Yd(O4:aZ->A Int)(x:aZ):A Bool:=
 if (decide (Int.ofNat (List.length x.1) > 20)||decide (Int.ofNat (List.length x.2.1) > 40)||decide (Int.ofNat (List.length x.2.2.1) > 60)||decide (Int.ofNat (List.length x.2.2.2.1) > 40))=true then A.pure true else A.bind (O4 x) λy=>if decide (y≠0)=true then A.pure false else A.bind (A.loop (λ(D:Int×Int×aZ×Unit)=>letI b:=List.getD D.2.2.1.1 (Int.toNat D.2.1) (0,0);letI a:=D.2.1<Int.ofNat (List.length D.2.2.1.1);if decide a=true then A.ab (0<=D.2.1/\a) (A.ab (0<=D.2.1/\a) (A.pure (V.next (IntKind.wrap .i64 (D.1*IntKind.wrap .i64 (Add.add (IntKind.wrap .i64 (b.2-b.1)) 1)),IntKind.wrap .i64 (Add.add D.2.1 1),D.2.2.1,())))) else A.bind (A.pure (V.next (D.1,()))) λr=>A.pure (V.done r)) (1,0,x,())) (V.bx (λ(D:Int×Unit)=>A.pure (decide (D.1 > 60))))
def k1(c:aZ):Bool:=decide (c.1.length > 20)||decide (c.2.1.length > 40)||decide (c.2.2.1.length > 60)||decide (c.2.2.2.1.length > 40)||(decide (cw c=0)&&decide (kk c.1 > 60))
theorem Ye:∀ (l:z4') (n:Nat),l.foldl (λn s=>n*(s.2 - s.1+1).toNat) n=n*kk l
 | [],n=>by simp[kk]
 | s::l,n=>by simp only[List.foldl_cons,kk];rw[Ye l,Nat.mul_assoc]
abbrev wb:aK:=⟨iN,dd,ix,k1⟩
theorem anm(x):A.le (Yd hr.sh x) (wb.sh x):=A.bq λh=>by
 unfold Yd;show _=A.pure (k1 x);simp only[bV];by_cases aD:(decide ((x.1.length:Int) > 20)||decide ((x.2.1.length:Int) > 40)||decide ((x.2.2.1.length:Int) > 60)||decide ((x.2.2.2.1.length:Int) > 40))=true
 ·rw[if_pos aD];refine congrArg A.pure ?_;unfold k1;grind
 ·rw[if_neg aD,show hr.sh x=A.pure (cw x) from A.bR h _,A.aF];have e:k1 x=(decide (cw x=0)&&decide (kk x.1 > 60)):=by
   unfold k1;grind
  rw[e];by_cases hc:cw x=0
  ·have aB:=oU hc;rw[if_neg (by grind)];have aA:=aB.eb;rw[A.f_ x.1 (λi (n:Nat)=>((n:Int),(i:Int),x,())) (λs n=>.next (n*(s.2 - s.1+1).toNat)) (λn=>.next ((n:Int),())) (λi n=>n<=61 ^ i) 1 ?_ ?_ ?_ ?_]
   ·rw[dP,Ye,Nat.one_mul,A.aF,A.bY];grind
   ·rfl
   ·simp
   ·intro i G n hW;have al:=aB.clk _ (List.getElem_mem G);have W:n<=61 ^ 3:=Nat.le_trans hW (Nat.pow_le_pow_right (by omega) (by omega));have hw:=bz (n:=(i:Int)+1) (by omega) (by omega);have cn:=bz (n:=x.1[i].2 - x.1[i].1) (by omega) (by omega);have c7:=bz (n:=x.1[i].2 - x.1[i].1+1) (by omega) (by omega);have zx:((n*(x.1[i].2 - x.1[i].1+1).toNat:Nat):Int)=(n:Int)*(x.1[i].2 - x.1[i].1+1):=by
     grind
    have hm:n*(x.1[i].2 - x.1[i].1+1).toNat<=61 ^ (i+1):=by
     rw[Nat.pow_succ];exact Nat.mul_le_mul hW (by omega)
    have Hk:n*(x.1[i].2 - x.1[i].1+1).toNat<=61 ^ 4:=Nat.le_trans hm (Nat.pow_le_pow_right (by omega) (by omega));have eW:=bz (n:=(n:Int)*(x.1[i].2 - x.1[i].1+1)) (by omega) (by omega);simp_all
   simp
  grind
theorem ano{c:aZ}(h:k1 c=false):gI c:=by
 unfold k1 at h;simp only[Bool.or_eq_false_iff,decide_eq_false_iff_not,Bool.and_eq_false_imp,decide_eq_true_eq]at h;obtain⟨⟨⟨⟨E,U⟩,ag⟩,a1⟩,bL⟩:=h;exact⟨⟨by omega,by omega,by omega,by omega⟩,λhc=>by omega⟩
end Go.Fer.H
