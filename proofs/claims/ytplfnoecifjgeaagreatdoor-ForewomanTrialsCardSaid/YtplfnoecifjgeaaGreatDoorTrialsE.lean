/- Part 5 of the proof of Trials: shallow programs of Go functions, and what they compute. No condition. -/
import Derived.Test.YtplfnoecifjgeaaGreatDoorTrialsD
noncomputable section
set_option linter.unusedVariables false
set_option linter.unusedSimpArgs false
namespace Go.Fer.H
open M (aa)
set_option maxRecDepth 100000
abbrev aU:Type:=Int×Int×Int×Int×Int×Int
abbrev pf:Type:=Int×Int×Int×Int×Int×Int×Int
abbrev aQ:Type:=z4'×List aU×z1'×z4'×pf
abbrev bj:Type:=aU×Int
abbrev du:Type:=z1'×List (List bj)
abbrev dE:Type:=aQ×List aU×List (Option du)
abbrev gU:Type:=z4'×List aU×z1'×z4'×Int×Int×Int×Int×Int×Int×Int×List aU×List (Option du)×Unit
abbrev eQ(l:z4')(a b:Int):z4':=ls (k:=.int .i64) (v:=.int .i64) l a b
abbrev gV:af:=.st (.aw (.int .i64) (.aw (.int .i64) (.aw (.int .i64) (.aw (.int .i64) (.aw (.int .i64) (.int .i64))))))
abbrev kH(l:List (Int×aU))(a:Int)(b:aU):List (Int×aU):=ls (k:=.int .i64) (v:=gV) l a b
abbrev ajP:List UInt8:=0::1::(List.replicate 2 2++(List.replicate 4 3++(List.replicate 8 4++(List.replicate 16 5++(List.replicate 32 6++(List.replicate 64 7++List.replicate 128 8))))))
abbrev _root_.Prod.cK{fs ft fv fw fx fj fk:Type}(x:fs×ft×fv×fw×fx×fj×fk):fj:=x.2.2.2.2.2.1
abbrev _root_.Prod.e8{fs ft fv fw fx fj fk fE:Type}(x:fs×ft×fv×fw×fx×fj×fk×fE):fk:=x.2.2.2.2.2.2.1
abbrev _root_.Prod.gy{fs ft fv fw fx fj fk fE f_:Type}(x:fs×ft×fv×fw×fx×fj×fk×fE×f_):fE:=x.2.2.2.2.2.2.2.1
abbrev _root_.Prod.ib{fs ft fv fw fx fj fk fE f_ gz:Type}(x:fs×ft×fv×fw×fx×fj×fk×fE×f_×gz):f_:=x.2.2.2.2.2.2.2.2.1
abbrev _root_.Prod.jF{fs ft fv fw fx fj fk fE f_ gz gW:Type}(x:fs×ft×fv×fw×fx×fj×fk×fE×f_×gz×gW):gz:=x.2.2.2.2.2.2.2.2.2.1
abbrev _root_.Prod.kI{fs ft fv fw fx fj fk fE f_ gz gW hy:Type}(x:fs×ft×fv×fw×fx×fj×fk×fE×f_×gz×gW×hy):gW:=x.2.2.2.2.2.2.2.2.2.2.1
abbrev _root_.Prod.hz{fs ft fv fw fx fj fk fE f_ gz gW hy hY:Type}(x:fs×ft×fv×fw×fx×fj×fk×fE×f_×gz×gW×hy×hY):hy:=x.2.2.2.2.2.2.2.2.2.2.2.1
abbrev _root_.Prod.mO{fs ft fv fw fx fj fk fE f_ gz gW hy hY iA:Type}(x:fs×ft×fv×fw×fx×fj×fk×fE×f_×gz×gW×hy×hY×iA):hY:=x.2.2.2.2.2.2.2.2.2.2.2.2.1
abbrev _root_.Prod.pg{fs ft fv fw fx fj fk fE f_ gz gW hy hY iA jg:Type}(x:fs×ft×fv×fw×fx×fj×fk×fE×f_×gz×gW×hy×hY×iA×jg):iA:=x.2.2.2.2.2.2.2.2.2.2.2.2.2.1
abbrev _root_.Prod.sq{fs ft fv fw fx fj fk fE f_ gz gW hy hY iA jg j9:Type}(x:fs×ft×fv×fw×fx×fj×fk×fE×f_×gz×gW×hy×hY×iA×jg×j9):jg:=x.2.2.2.2.2.2.2.2.2.2.2.2.2.2.1
abbrev _root_.Prod.xQ{fs ft fv fw fx fj fk fE f_ gz gW hy hY iA jg j9 kJ:Type}(x:fs×ft×fv×fw×fx×fj×fk×fE×f_×gz×gW×hy×hY×iA×jg×j9×kJ):j9:=x.2.2.2.2.2.2.2.2.2.2.2.2.2.2.2.1
abbrev _root_.Prod.Dz{fs ft fv fw fx fj fk fE f_ gz gW hy hY iA jg j9 kJ lM:Type}(x:fs×ft×fv×fw×fx×fj×fk×fE×f_×gz×gW×hy×hY×iA×jg×j9×kJ×lM):kJ:=x.2.2.2.2.2.2.2.2.2.2.2.2.2.2.2.2.1
abbrev _root_.Prod.NC{fs ft fv fw fx fj fk fE f_ gz gW hy hY iA jg j9 kJ lM mP:Type}(x:fs×ft×fv×fw×fx×fj×fk×fE×f_×gz×gW×hy×hY×iA×jg×j9×kJ×lM×mP):lM:=x.2.2.2.2.2.2.2.2.2.2.2.2.2.2.2.2.2.1
abbrev _root_.Prod.ND{fs ft fv fw fx fj fk fE f_ gz gW hy hY iA jg j9 kJ lM mP oz:Type}(x:fs×ft×fv×fw×fx×fj×fk×fE×f_×gz×gW×hy×hY×iA×jg×j9×kJ×lM×mP×oz):mP:=x.2.2.2.2.2.2.2.2.2.2.2.2.2.2.2.2.2.2.1
abbrev _root_.Prod.NF{fs ft fv fw fx fj fk fE f_ gz gW hy hY iA jg j9 kJ lM mP oz qf:Type}(x:fs×ft×fv×fw×fx×fj×fk×fE×f_×gz×gW×hy×hY×iA×jg×j9×kJ×lM×mP×oz×qf):oz:=x.2.2.2.2.2.2.2.2.2.2.2.2.2.2.2.2.2.2.2.1
abbrev _root_.Prod.NG{fs ft fv fw fx fj fk fE f_ gz gW hy hY iA jg j9 kJ lM mP oz qf sr:Type}(x:fs×ft×fv×fw×fx×fj×fk×fE×f_×gz×gW×hy×hY×iA×jg×j9×kJ×lM×mP×oz×qf×sr):qf:=x.2.2.2.2.2.2.2.2.2.2.2.2.2.2.2.2.2.2.2.2.1
abbrev _root_.Prod.ajQ{fs ft fv fw fx fj fk fE f_ gz gW hy hY iA jg j9 kJ lM mP oz qf sr vw:Type}(x:fs×ft×fv×fw×fx×fj×fk×fE×f_×gz×gW×hy×hY×iA×jg×j9×kJ×lM×mP×oz×qf×sr×vw):sr:=x.2.2.2.2.2.2.2.2.2.2.2.2.2.2.2.2.2.2.2.2.2.1
abbrev _root_.Prod.NH{fs ft fv fw fx fj fk fE f_ gz gW hy hY iA jg j9 kJ lM mP oz qf sr vw Aa:Type}(x:fs×ft×fv×fw×fx×fj×fk×fE×f_×gz×gW×hy×hY×iA×jg×j9×kJ×lM×mP×oz×qf×sr×vw×Aa):vw:=x.2.2.2.2.2.2.2.2.2.2.2.2.2.2.2.2.2.2.2.2.2.2.1
abbrev _root_.Prod.re{fs ft fv fw fx fj fk fE f_ gz gW hy hY iA jg j9 kJ lM mP oz qf sr vw Aa Hh:Type}(x:fs×ft×fv×fw×fx×fj×fk×fE×f_×gz×gW×hy×hY×iA×jg×j9×kJ×lM×mP×oz×qf×sr×vw×Aa×Hh):Aa:=x.2.2.2.2.2.2.2.2.2.2.2.2.2.2.2.2.2.2.2.2.2.2.2.1
abbrev _root_.Prod.DA{fs ft fv fw fx fj fk fE f_ gz gW hy hY iA jg j9 kJ lM mP oz qf sr vw Aa Hh ajR:Type}(x:fs×ft×fv×fw×fx×fj×fk×fE×f_×gz×gW×hy×hY×iA×jg×j9×kJ×lM×mP×oz×qf×sr×vw×Aa×Hh×ajR):Hh:=x.2.2.2.2.2.2.2.2.2.2.2.2.2.2.2.2.2.2.2.2.2.2.2.2.1
def VH(tY:aQ×(Option dE->M Bool)->M (Option dE×Int))(DB:Option du×Int×Int->M (bj×Bool))(DC:(z1'->Prop)->M (z1'))(ajS:z4'->M (z1'->Prop))(ajT:Option dE×Option Int×Option Int->M Bool)(x:aQ×Int×Int):M (z1'×Int):=
 M.bind (tY (x.1,λhg=>ajT (hg,some x.2.1,some x.2.2))) λy=>letI a:=(Option.getD y.1 (([],[],[],[],0,0,0,0,0,0,0),[],[])).2.2;if decide (y.2≠0)=true then M.pure ([],y.2) else M.bind (M.ae (Option.isSome y.1=true) (M.loop (λ(A:List (Option du)×Int×Int×Int×Int×z4'×Unit)=>letI b:=A.2.2;if decide (b.1<A.2.1)=true then M.bind (M.ae (0<=b.1/\b.1<Int.ofNat (List.length A.1)) (M.bind (DB (List.getD A.1 (Int.toNat b.1) none,b.2.1,b.2.2.1)) (λy=>if y.2=true then M.pure (aa.next (A.1,A.2.1,b.1,b.2.1,b.2.2.1,eQ A.cK y.1.1.2.2.2.2.2 (IntKind.wrap .i64 (Add.add (Option.getD (Option.map (λx=>x.2) (List.find? (λp=>decide (y.1.1.2.2.2.2.2=p.1)) A.cK)) 0) 1)),())) else M.pure (aa.next (A.1,A.2.1,b.1,b.2.1,b.2.2.1,eQ A.cK (-1) (IntKind.wrap .i64 (Add.add (Option.getD (Option.map (λx=>x.2) (List.find? (λp=>decide (-1=p.1)) A.cK)) 0) 1)),()))))) (aa.bm (λ(A:List (Option du)×Int×Int×Int×Int×z4'×Unit)=>M.pure (aa.next (A.1,A.2.1,IntKind.wrap .i64 (Add.add A.2.2.1 1),A.2.2.2.1,A.2.2.2.2.1,A.cK,())))) else M.bind (M.pure (aa.next (A.cK,()))) λr=>M.pure (aa.done r)) (a,Int.ofNat (List.length a),0,x.2.1,x.2.2,[],()))) (aa.bm (λ(A:z4'×Unit)=>M.bind (ajS A.1) λy=>M.bind (DC y) λy=>M.pure (y,0)))
def VI(NI:aQ×Int×(Int->M Int)->M ((Int×Int)×Int))(ajU:Int×Option aQ->M Int)(x:aQ×Int):M ((Int×Int)×Int):=
 M.bind (NI (x.1,x.2,λhg=>ajU (hg,some x.1))) λy=>M.pure y
def VJ(NI:aQ×Int×(Int->M Int)->M ((Int×Int)×Int))(ajV:Int->M Int)(x:aQ×Int):M ((Int×Int)×Int):=
 M.bind (NI (x.1,x.2,ajV)) λy=>M.pure y
def VK(tY:aQ×(Option dE->M Bool)->M (Option dE×Int))(DD:Option dE×(Option du->M (Int×Bool))->M ((Int×Int)×Bool))(ajW:Option dE×Option Int->M Bool)(ajX:Option du×Option Int×Option aQ->M (Int×Bool))(x:aQ×Int):M ((Int×Int)×Int):=
 M.bind (tY (x.1,λhg=>ajW (hg,some x.2))) λy=>if decide (y.2≠0)=true then M.pure ((0,0),y.2) else M.bind (DD (y.1,λhg=>ajX (hg,some x.2,some x.1))) λy=>M.pure (y.1,0)
def VL(tY:aQ×(Option dE->M Bool)->M (Option dE×Int))(DD:Option dE×(Option du->M (Int×Bool))->M ((Int×Int)×Bool))(ajY:Option dE×Option Int->M Bool)(ajZ:Option du×Option (Option dE)×Option Int×Option aQ->M (Int×Bool))(x:aQ×Int):M ((Int×Int)×Int):=
 M.bind (tY (x.1,λhg=>ajY (hg,some x.2))) λy=>if decide (y.2≠0)=true then M.pure ((0,0),y.2) else M.bind (DD (y.1,λhg=>ajZ (hg,some y.1,some x.2,some x.1))) λy=>M.pure (y.1,0)
def VM(aj0:aQ->M Bool)(NJ:List aU->M (List aU×Bool))(x:aQ):M Int:=
 M.bind (aj0 x) λy=>if (!y)=true then M.pure 90 else M.bind (NJ x.2.1) λy=>if (!y.2)=true then M.pure 91 else M.pure 0
def VN(aj1:aQ->M Bool)(VO:aU×Int×Int×Int×Int×Int×Int->M Bool)(x:aQ):M Int:=
 M.bind (aj1 x) λy=>if (!y)=true then M.pure 90 else M.bind (M.loop (λ(A:Int×aQ×Unit)=>if decide (A.1<Int.ofNat (List.length A.2.1.2.1))=true then M.bind (M.loop (λ(A:Int×Int×aQ×Unit)=>letI c:=A.2.2.1;letI b:=Int.ofNat (List.length c.2.1);letI a:=(List.getD c.2.1 (Int.toNat A.2.1) (0,0,0,0,0,0),List.getD c.2.1 (Int.toNat A.1) (0,0,0,0,0,0));if decide (A.2.1<A.1)=true then M.ae (0<=A.2.1/\A.2.1<b) (M.ae (0<=A.1/\A.1<b) (M.ae (VO a).bY (if M.val (VO a) false=true then M.bind (M.bind (M.bind (M.bind (M.pure 91) (λr=>M.pure (aa.done r))) (λr=>M.pure (aa.done r))) (λr=>M.pure (aa.done r))) λr=>M.pure (aa.done r) else M.pure (aa.next (A.1,IntKind.wrap .i64 (Add.add A.2.1 1),c,()))))) else M.bind (M.pure (aa.next (A.1,c,()))) λr=>M.pure (aa.done r)) (A.1,0,A.2.1,())) (aa.bm (λ(A:Int×aQ×Unit)=>M.pure (aa.next (IntKind.wrap .i64 (Add.add A.1 1),A.2.1,())))) else M.bind (M.pure (aa.next ())) λr=>M.pure (aa.done r)) (0,x,())) (aa.bm (λ(A:Unit)=>M.pure 0))
def VP(tY:aQ×(Option dE->M Bool)->M (Option dE×Int))(DB:Option du×Int×Int->M (bj×Bool))(Ab:aQ×Int×Int->M Int)(aj2:Option dE×Option Int->M Bool)(x:aQ×Int):M (z1'×z1'×Int):=
 M.bind (tY (x.1,λhg=>aj2 (hg,some x.2))) λy=>if decide (y.2≠0)=true then M.pure ([],[],y.2) else M.bind (M.loop (λ(A:Option dE×Int×aQ×Int×z1'×z1'×Unit)=>letI b:=(Option.getD A.1 (([],[],[],[],0,0,0,0,0,0,0),[],[])).2.2;if decide (A.2.1<10)=true then M.bind (M.bind (M.ae (Option.isSome A.1=true) (M.loop (λ(A:Option dE×Int×Int×Int×List (Option du)×Int×Int×aQ×Int×z1'×z1'×Unit)=>letI d:=A.2.2.2;if decide (A.e8<A.cK)=true then M.bind (M.ae (0<=A.e8/\A.e8<Int.ofNat (List.length d.2.1)) (M.bind (DB (List.getD d.2.1 (Int.toNat A.e8) none,A.2.1,A.ib)) (λy=>letI a:=y.2=true;letI c:=a->a/\True/\True;M.ae c (M.ae (a->(a/\a/\a/\True)/\(Ab (A.gy,y.1.2,A.ib)).bY/\True) (M.ae c (M.ae c (M.ae (a->(a/\a)/\True/\True) (M.ae (True/\(a->a)) (if (y.2&&decide (M.val (Ab (A.gy,y.1.2,A.ib)) 0>=A.gy.ib))=true then M.pure (aa.next (A.1,A.2.1,IntKind.wrap .i64 (Add.add A.2.2.1 1),d.1,d.2.1,A.cK,A.e8,A.gy,A.ib,A.jF,A.kI,())) else M.pure (aa.next (A.1,A.2.1,A.2.2.1,d.1,d.2.1,A.cK,A.e8,A.gy,A.ib,A.jF,A.kI,()))))))))))) (aa.bm (λ(A:Option dE×Int×Int×Int×List (Option du)×Int×Int×aQ×Int×z1'×z1'×Unit)=>M.pure (aa.next (A.1,A.2.1,A.2.2.1,A.2.2.2.1,A.2.2.2.2.1,A.cK,IntKind.wrap .i64 (Add.add A.e8 1),A.gy,A.ib,A.jF,A.kI,())))) else M.bind (M.pure (aa.next (A.1,A.2.1,A.2.2.1,d.1,A.gy,A.ib,A.jF,A.kI,()))) λr=>M.pure (aa.done r)) (A.1,A.2.1,0,A.2.1,b,Int.ofNat (List.length b),0,A.2.2.1,A.2.2.2.1,A.2.2.2.2.1,A.cK,()))) (aa.bm (λ(A:Option dE×Int×Int×Int×aQ×Int×z1'×z1'×Unit)=>letI e:=A.2.2;M.bind (if decide (e.1 > 0)=true then M.ae (bT (Add.add (List.length A.gy) (Add.add 0 1))) (M.pure (aa.next (A.1,A.2.1,e.1,e.2.1,e.2.2.1,A.cK,A.e8,A.gy++[A.2.1],()))) else M.pure (aa.next (A.1,A.2.1,e.1,e.2.1,e.2.2.1,A.cK,A.e8,A.gy,()))) (aa.bm (λ(A:Option dE×Int×Int×Int×aQ×Int×z1'×z1'×Unit)=>letI f:=A.2.2.2;M.ae (Option.isSome A.1=true) (if decide (A.2.2.1=Int.ofNat (List.length (Option.getD A.1 (([],[],[],[],0,0,0,0,0,0,0),[],[])).2.2))=true then M.ae (bT (Add.add (List.length A.e8) (Add.add 0 1))) (M.pure (aa.next (A.1,f.1,f.2.1,A.cK,A.e8++[A.2.1],A.gy,()))) else M.pure (aa.next (A.1,f.1,f.2.1,A.cK,A.e8,A.gy,())))))))) (aa.bm (λ(A:Option dE×Int×aQ×Int×z1'×z1'×Unit)=>M.pure (aa.next (A.1,IntKind.wrap .i64 (Add.add A.2.1 1),A.2.2.1,A.2.2.2.1,A.2.2.2.2.1,A.cK,())))) else M.bind (M.pure (aa.next (A.2.2.2.2.1,A.cK,()))) λr=>M.pure (aa.done r)) (y.1,0,x.1,x.2,[],[],())) (aa.bm (λ(A:z1'×z1'×Unit)=>M.pure (A.1,A.2.1,0)))
def VQ(Ac:aQ->M Int)(aj3:List aU×Unit->M (Bool×List aU×Unit))(aj4:(Int×Int×Int×Int×Int×Int->M Bool)×List aU×Unit->M ((Nat×Nat)×List aU×Unit))(NK:z1'×gU->M (gU))(aj5:aU×Option aQ->M Bool)(x:aQ×(Option dE->M Bool)):M (Option dE×Int):=
 M.bind (Ac x.1) λy=>if decide (y≠0)=true then M.pure (none,y) else M.bind (aj3 (x.1.2.1,())) λy=>M.ae True (M.ae True (M.bind (aj4 (λhg=>aj5 (hg,some x.1),y.2.1,())) (λy=>M.ae True (M.bind (M.bind (x.2 (some (x.1,List.drop y.1.1 (List.take y.1.2 y.2.1),[]))) (λbL=>if (!bL)=true then M.bind (M.pure (none,1)) λr=>M.pure (aa.done r) else M.pure (aa.next (x.1.1,x.1.2.1,x.1.2.2.1,x.1.2.2.2.1,x.1.2.2.2.2.1,x.1.cK,x.1.e8,x.1.gy,x.1.ib,x.1.jF,x.1.2.2.2.2.2.2.2.2.2.2,y.1,y.2.1,[],())))) (aa.bm (λ(A:z4'×List aU×z1'×z4'×Int×Int×Int×Int×Int×Int×Int×(Nat×Nat)×List aU×List (Option du)×Unit)=>M.bind (NK ([],A.1,A.2.1,A.2.2.1,A.2.2.2.1,A.2.2.2.2.1,A.cK,A.e8,A.gy,A.ib,A.jF,A.kI,List.drop A.hz.1 (List.take A.hz.2 A.mO),A.pg,())) λy=>M.ae True (if decide (Int.ofNat (List.length y.mO)=0)=true then M.pure (none,3) else M.pure (some ((y.1,y.2.1,y.2.2.1,y.2.2.2.1,y.2.2.2.2.1,y.cK,y.e8,y.gy,y.ib,y.jF,y.kI),y.hz,y.mO),0))))))))
def VR(jh:Int×Int×Int->M Bool)(DE:Int->M Bool)(x:Option dE×Option Int×Option Int):M Bool:=
 M.bind (jh (Option.getD x.2.1 0,0,9)) λy=>M.bind (b1 y (DE (Option.getD x.2.2 0)) false) λbL=>M.pure (y&&bL)
def aj6(x:Int×Int×Int):M Bool:=
 M.pure (decide (x.2.1<=x.1)&&decide (x.1<=x.2.2))
def VS(jh:Int×Int×Int->M Bool)(x:Int):M Bool:=
 M.bind (jh (x,0,9999)) λy=>M.pure y
def VT(x:Option du×Int×Int):M (bj×Bool):=
 letI b:=List.getD (Option.getD x.1 ([],[[],[],[],[],[],[],[],[],[],[]])).2 (Int.toNat x.2.1) [];M.bind (M.ae (Option.isSome x.1=true) (M.ae (0<=x.2.1/\x.2.1<Int.ofNat 10) (M.loop (λ(A:Int×Bool×List bj×Int×Int×bj×bj×Unit)=>letI d:=A.2.2;letI c:=d.2.2.1;letI a:=List.getD d.1 (Int.toNat c) ((0,0,0,0,0,0),0);if decide (c<d.2.1)=true then M.bind (M.ae (0<=c/\c<Int.ofNat (List.length d.1)) (if decide (a.2<=A.1)=true then M.pure (aa.next (A.1,decide (a.1.2.2.2.1=1),d.1,d.2.1,c,A.cK,a,())) else M.pure (aa.next (A.1,A.2.1,d.1,d.2.1,c,A.cK,A.e8,())))) (aa.bm (λ(A:Int×Bool×List bj×Int×Int×bj×bj×Unit)=>M.pure (aa.next (A.1,A.2.1,A.2.2.1,A.2.2.2.1,IntKind.wrap .i64 (Add.add A.2.2.2.2.1 1),A.cK,A.e8,())))) else M.bind (M.pure (aa.next (A.2.1,A.cK,A.e8,()))) λr=>M.pure (aa.done r)) (x.2.2,false,b,Int.ofNat (List.length b),0,((0,0,0,0,0,0),0),((0,0,0,0,0,0),0),())))) (aa.bm (λ(A:Bool×bj×bj×Unit)=>M.pure (A.2.2.1,A.1)))
def VU(NL:z1'×Unit->M (z1'×Unit))(aj7:(z1'->Prop)×Unit->M (z1'×Unit))(x:z1'->Prop):M (z1'):=
 M.bind (aj7 (x,())) λy=>M.bind (NL (y.1,())) λy=>M.pure y.1
def aj8(aj9:Option (z4')->z1'->Prop)(x:z4'):M (z1'->Prop):=
 M.pure (aj9 (some x))
def VV(tY:aQ×(Option dE->M Bool)->M (Option dE×Int))(DD:Option dE×(Option du->M (Int×Bool))->M ((Int×Int)×Bool))(aj_:Option dE×Option Int->M Bool)(aj':Option du×Option (Option dE)×Option Int×Option (Int->M Int)->M (Int×Bool))(x:aQ×Int×(Int->M Int)):M ((Int×Int)×Int):=
 M.bind (tY (x.1,λhg=>aj_ (hg,some x.2.1))) λy=>if decide (y.2≠0)=true then M.pure ((0,0),y.2) else M.bind (DD (y.1,λhg=>aj' (hg,some y.1,some x.2.1,some x.2.2))) λy=>if (!y.2)=true then M.pure ((0,0),3) else M.pure (y.1,0)
def VW(Hi:pf×Int->M Int)(x:Int×Option aQ):M Int:=
 M.bind (Hi ((Option.getD x.2 ([],[],[],[],0,0,0,0,0,0,0)).2.2.2.2,x.1)) λy=>M.pure y
def VX(x:pf×Int):M Int:=
 letI c:=x.1.2;letI b:=IntKind.wrap .i64 (x.2-x.1.1);letI a:=IntKind.wrap .i64 (c.2.1*IntKind.wrap .i64 (Int.tdiv (IntKind.wrap .i64 (IntKind.wrap .i64 (Add.add (if b > 0 then b else 0) c.1)-1)) c.1));if decide (x.2>=c.2.2.2.1)=true then M.pure x.1.cK else M.ae (c.1≠0) (M.pure (if a<c.2.2.1 then a else c.2.2.1))
def aka(x:Int):M Int:=
 M.pure x
def VY(DE:Int->M Bool)(x:Option dE×Option Int):M Bool:=
 M.bind (DE (Option.getD x.2 0)) λy=>M.pure y
def VZ(x:Option dE×(Option du->M (Int×Bool))):M ((Int×Int)×Bool):=
 letI b:=(Option.getD x.1 (([],[],[],[],0,0,0,0,0,0,0),[],[])).2.2;M.bind (M.ae (Option.isSome x.1=true) (M.loop (λ(A:(Option du->M (Int×Bool))×Bool×List (Option du)×Int×Int×(Int×Int)×Unit)=>letI c:=A.2.2;letI a:=c.2.2.1;if decide (a<c.2.1)=true then M.bind (M.ae (0<=a/\a<Int.ofNat (List.length c.1)) (M.bind (A.1 (List.getD c.1 (Int.toNat a) none)) (λy=>if (!y.2)=true then M.pure (aa.next (A.1,A.2.1,c.1,c.2.1,a,A.cK,())) else if (!A.2.1)=true then M.pure (aa.next (A.1,true,c.1,c.2.1,a,(y.1,y.1),())) else M.pure (aa.next (A.1,A.2.1,c.1,c.2.1,a,(if y.1<A.cK.1 then y.1 else A.cK.1,if y.1 > A.cK.2 then y.1 else A.cK.2),()))))) (aa.bm (λ(A:(Option du->M (Int×Bool))×Bool×List (Option du)×Int×Int×(Int×Int)×Unit)=>M.pure (aa.next (A.1,A.2.1,A.2.2.1,A.2.2.2.1,IntKind.wrap .i64 (Add.add A.2.2.2.2.1 1),A.cK,())))) else M.bind (M.pure (aa.next (A.2.1,A.cK,()))) λr=>M.pure (aa.done r)) (x.2,false,b,Int.ofNat (List.length b),0,(0,0),()))) (aa.bm (λ(A:Bool×(Int×Int)×Unit)=>M.pure (A.2.1,A.1)))
def V0(DB:Option du×Int×Int->M (bj×Bool))(x:Option du×Option Int×Option aQ):M (Int×Bool):=
 M.bind (M.loop (λ(A:Option du×Int×aQ×Int×Int×Unit)=>letI a:=A.2.2.2;if decide (a.2.1<10)=true then M.bind (M.bind (DB (A.1,a.2.1,A.2.1)) (λy=>if y.2=true then M.pure (aa.next (A.1,A.2.1,A.2.2.1,IntKind.wrap .i64 (Add.add a.1 A.2.2.1.2.2.2.2.2.2.2.2.2.2),a.2.1,())) else M.pure (aa.next (A.1,A.2.1,A.2.2.1,a.1,a.2.1,())))) (aa.bm (λ(A:Option du×Int×aQ×Int×Int×Unit)=>M.pure (aa.next (A.1,A.2.1,A.2.2.1,A.2.2.2.1,IntKind.wrap .i64 (Add.add A.2.2.2.2.1 1),())))) else M.bind (M.pure (aa.next (a.1,()))) λr=>M.pure (aa.done r)) (x.1,Option.getD x.2.1 0,Option.getD x.2.2 ([],[],[],[],0,0,0,0,0,0,0),0,0,())) (aa.bm (λ(A:Int×Unit)=>M.pure (A.1,true)))
def V1(Ad:Int->M Bool)(x:Option dE×Option Int):M Bool:=
 M.bind (Ad (Option.getD x.2 0)) λy=>M.pure y
def V2(jh:Int×Int×Int->M Bool)(x:Int):M Bool:=
 M.bind (jh (x,0,99)) λy=>M.pure y
def V3(Hi:pf×Int->M Int)(NM:Option dE×Option du->M (List bj->Prop))(x:Option du×Option (Option dE)×Option Int×Option aQ):M (Int×Bool):=
 M.bind (NM (Option.getD x.2.1 none,x.1)) λy=>M.bind (M.any y) λL=>M.bind (jA (λ(A:Int×aQ×Int×Unit) (y:aU×Int)=>letI a:=(A.2.1.2.2.2.2,y.2);M.bind (if decide (y.1.2.2.2.2.2=A.1)=true then M.ae (Hi a).bY (M.pure (cQ.normal,IntKind.wrap .i64 (Add.add A.2.2.1 (M.val (Hi a) 0)),())) else M.pure (cQ.normal,A.2.2.1,())) λp=>M.pure (p.1,A.1,A.2.1,p.2.1,())) L (Option.getD x.2.2.1 0,Option.getD x.2.2.2 ([],[],[],[],0,0,0,0,0,0,0),0,())) λp=>r4 (M.pure (p.2.2.2.1,true)) (λid=>if id=0 then M.pure (p.2.2.2.1,true) else M.fail) M.fail p.1
def akb(akc:Option (Option du)×Option (Option dE)->List bj->Prop)(x:Option dE×Option du):M (List bj->Prop):=
 M.pure (akc (some x.2,some x.1))
def V4(jh:Int×Int×Int->M Bool)(NN:List aU×(Int×Int×Int×Int×Int×Int->M Bool)->M Bool)(akd:Int×Int×Int×Int×Int×Int×Int->M Bool)(Nv:z1'×(Int->M Bool)->M Bool)(ake:aU×Option aQ->M Bool)(akf:Int->M Bool)(x:aQ):M Bool:=
 letI k:=Int.ofNat (List.length x.1);letI d:=decide (k > 3)||decide (Int.ofNat (List.length x.2.1) > 12)||decide (Int.ofNat (List.length x.2.2.1) > 12)||decide (Int.ofNat (List.length x.2.2.2.1) > 4);M.bind (b1 (!d) (akd x.2.2.2.2) false) λy=>if (d||!y)=true then M.pure false else M.bind (M.loop (λ(A:z4'×Int×Int×aQ×Unit)=>letI l:=A.2.2.1;letI e:=List.getD A.1 (Int.toNat l) (0,0);if decide (l<A.2.1)=true then M.ae (0<=l/\l<Int.ofNat (List.length A.1)) (M.bind (jh (e.1,-30,e.2)) (λy=>if (!y||decide (e.2 > 30))=true then M.bind (M.bind (M.pure false) (λr=>M.pure (aa.done r))) λr=>M.pure (aa.done r) else M.pure (aa.next (A.1,A.2.1,IntKind.wrap .i64 (Add.add l 1),A.2.2.2.1,())))) else M.bind (M.pure (aa.next (A.2.2.2.1,()))) λr=>M.pure (aa.done r)) (x.1,k,0,x,())) (aa.bm (λ(A:aQ×Unit)=>M.bind (M.loop (λ(A:z4'×Int×Int×aQ×Unit)=>letI m:=A.2.2.2.1;letI f:=A.2.2.1;letI j:=decide (f > 0);letI i:=IntKind.wrap .i64 (f-1);letI b:=List.getD A.1 (Int.toNat f) (0,0);letI a:=!(M.val (jh (b.1,0,b.2)) false)||decide (b.2 > 9999);letI h:=(!a)=true;letI c:=(!a&&j)=true;letI g:=c->c/\True/\True;if decide (f<A.2.1)=true then M.ae (0<=f/\f<Int.ofNat (List.length A.1)) (M.ae (jh (b.1,0,b.2)).bY (M.ae ((!(!(M.val (jh (b.1,0,b.2)) false)))=true->(!(!(M.val (jh (b.1,0,b.2)) false)))=true/\True/\True) (M.ae ((!(!(M.val (jh (b.1,0,b.2)) false)))=true->((!(!(M.val (jh (b.1,0,b.2)) false)))=true/\True)/\True/\True) (M.ae (True/\((!(M.val (jh (b.1,0,b.2)) false))=false->(!(!(M.val (jh (b.1,0,b.2)) false)))=true)) (M.ae (h->(h/\True)/\True/\True) (M.ae (h->True/\True/\h) (M.ae g (M.ae g (M.ae (c->(c/\True)/\True/\True) (M.ae (c->(c/\c)/\(0<=i/\i<Int.ofNat (List.length m.2.2.2.1))/\True) (M.ae g (M.ae g (M.ae (c->(c/\c)/\True/\True) (M.ae (h->(h/\(j=true->c))/\True/\True) (M.ae (True/\(a=false->h)) (if (a||j&&decide (b.1<=(List.getD m.2.2.2.1 (Int.toNat i) (0,0)).2))=true then M.bind (M.bind (M.pure false) (λr=>M.pure (aa.done r))) λr=>M.pure (aa.done r) else M.pure (aa.next (A.1,A.2.1,IntKind.wrap .i64 (Add.add f 1),m,())))))))))))))))))) else M.bind (M.pure (aa.next (m,()))) λr=>M.pure (aa.done r)) (A.1.2.2.2.1,Int.ofNat (List.length A.1.2.2.2.1),0,A.1,())) (aa.bm (λ(A:aQ×Unit)=>M.bind (NN (A.1.2.1,λx=>ake (x,some A.1))) λy=>M.bind (b1 (!y) (Nv (A.1.2.2.1,akf)) false) λbL=>M.pure (!y&&!bL)))))
def akg(DC:(z1'->Prop)->M (z1'))(NO:List (Int×aU)->M (z1'->Prop))(x:List aU):M (List aU×Bool):=
 M.bind (M.loop (λ(A:List aU×Int×Int×List (Int×aU)×Unit)=>letI e:=A.2.2;letI b:=List.getD A.1 (Int.toNat e.1) (0,0,0,0,0,0);letI c:=Option.map (λx=>x.2) (List.find? (λp=>decide (b.1=p.1)) e.2.1);letI a:=Option.getD c (0,0,0,0,0,0);if decide (e.1<A.2.1)=true then M.ae (0<=e.1/\e.1<Int.ofNat (List.length A.1)) (if (Option.isSome c&&!(decide (a.1=b.1)&&(decide (a.2.1=b.2.1)&&(decide (a.2.2.1=b.2.2.1)&&(decide (a.2.2.2.1=b.2.2.2.1)&&(decide (a.2.2.2.2.1=b.2.2.2.2.1)&&decide (a.2.2.2.2.2=b.2.2.2.2.2)))))))=true then M.bind (M.bind (M.pure ([],false)) (λr=>M.pure (aa.done r))) λr=>M.pure (aa.done r) else M.pure (aa.next (A.1,A.2.1,IntKind.wrap .i64 (Add.add e.1 1),kH e.2.1 b.1 b,()))) else M.bind (M.pure (aa.next (e.2.1,()))) λr=>M.pure (aa.done r)) (x,Int.ofNat (List.length x),0,[],())) (aa.bm (λ(A:List (Int×aU)×Unit)=>M.bind (M.bind (NO A.1) (λy=>M.bind (DC y) λy=>M.loop (λ(A:z1'×Int×Int×List aU×List (Int×aU)×Unit)=>letI d:=A.2.2;if decide (d.1<A.2.1)=true then M.ae (0<=d.1/\d.1<Int.ofNat (List.length A.1)) (M.ae (bT (Add.add (List.length d.2.1) (Add.add 0 1))) (M.pure (aa.next (A.1,A.2.1,IntKind.wrap .i64 (Add.add d.1 1),d.2.1++[Option.getD (Option.map (λx=>x.2) (List.find? (λp=>decide (List.getD A.1 (Int.toNat d.1) 0=p.1)) d.2.2.1)) (0,0,0,0,0,0)],d.2.2.1,())))) else M.bind (M.pure (aa.next (d.2.1,()))) λr=>M.pure (aa.done r)) (y,Int.ofNat (List.length y),0,[],A.1,()))) (aa.bm (λ(A:List aU×Unit)=>M.pure (A.1,true)))))
def V5(fF:Int×Int×Int->M Bool)(akh:Int×Int×Int×Int×Int×Int×Int->M Bool)(V6:aQ×Int×Int×Int×Int×Int×Int->M Bool)(x:aQ):M Bool:=
 letI e:=decide (Int.ofNat (List.length x.1) > 3)||decide (Int.ofNat (List.length x.2.1) > 12)||decide (Int.ofNat (List.length x.2.2.1) > 12)||decide (Int.ofNat (List.length x.2.2.2.1) > 4);M.bind (b1 (!e) (akh x.2.2.2.2) false) λy=>if (e||!y)=true then M.pure false else M.bind (M.loop (λ(A:Int×aQ×Unit)=>letI f:=A.1<Int.ofNat (List.length A.2.1.1);letI o:=0<=A.1/\f;letI b:=List.getD A.2.1.1 (Int.toNat A.1) (0,0);if decide f=true then M.ae o (M.ae o (M.ae (fF (b.1,-30,b.2)).bY (M.ae ((!(!(M.val (fF (b.1,-30,b.2)) false)))=true->(!(!(M.val (fF (b.1,-30,b.2)) false)))=true/\True/\True) (M.ae ((!(!(M.val (fF (b.1,-30,b.2)) false)))=true->((!(!(M.val (fF (b.1,-30,b.2)) false)))=true/\(!(!(M.val (fF (b.1,-30,b.2)) false)))=true)/\o/\True) (M.ae ((!(!(M.val (fF (b.1,-30,b.2)) false)))=true->(!(!(M.val (fF (b.1,-30,b.2)) false)))=true/\True/\True) (M.ae ((!(!(M.val (fF (b.1,-30,b.2)) false)))=true->(!(!(M.val (fF (b.1,-30,b.2)) false)))=true/\True/\True) (M.ae ((!(!(M.val (fF (b.1,-30,b.2)) false)))=true->((!(!(M.val (fF (b.1,-30,b.2)) false)))=true/\True)/\True/\True) (M.ae (True/\((!(M.val (fF (b.1,-30,b.2)) false))=false->(!(!(M.val (fF (b.1,-30,b.2)) false)))=true)) (if (!(M.val (fF (b.1,-30,b.2)) false)||decide (b.2 > 30))=true then M.bind (M.bind (M.pure false) (λr=>M.pure (aa.done r))) λr=>M.pure (aa.done r) else M.pure (aa.next (IntKind.wrap .i64 (Add.add A.1 1),A.2.1,()))))))))))) else M.bind (M.pure (aa.next (A.2.1,()))) λr=>M.pure (aa.done r)) (0,x,())) (aa.bm (λ(A:aQ×Unit)=>M.bind (M.loop (λ(A:Int×aQ×Unit)=>letI m:=A.1<Int.ofNat (List.length A.2.1.2.1);letI h:=(A.2.1,List.getD A.2.1.2.1 (Int.toNat A.1) (0,0,0,0,0,0));if decide m=true then M.ae (0<=A.1/\m) (M.ae (V6 h).bY (if (!(M.val (V6 h) false))=true then M.bind (M.bind (M.pure false) (λr=>M.pure (aa.done r))) λr=>M.pure (aa.done r) else M.pure (aa.next (IntKind.wrap .i64 (Add.add A.1 1),A.2.1,())))) else M.bind (M.pure (aa.next (A.2.1,()))) λr=>M.pure (aa.done r)) (0,A.1,())) (aa.bm (λ(A:aQ×Unit)=>M.bind (M.loop (λ(A:Int×aQ×Unit)=>letI l:=A.1<Int.ofNat (List.length A.2.1.2.2.1);if decide l=true then M.ae (0<=A.1/\l) (M.bind (fF (List.getD A.2.1.2.2.1 (Int.toNat A.1) 0,0,99)) (λy=>if (!y)=true then M.bind (M.bind (M.pure false) (λr=>M.pure (aa.done r))) λr=>M.pure (aa.done r) else M.pure (aa.next (IntKind.wrap .i64 (Add.add A.1 1),A.2.1,())))) else M.bind (M.pure (aa.next (A.2.1,()))) λr=>M.pure (aa.done r)) (0,A.1,())) (aa.bm (λ(A:aQ×Unit)=>M.bind (M.loop (λ(A:Int×aQ×Unit)=>letI p:=A.2.1.2.2.2.1;letI n:=decide (A.1 > 0);letI k:=IntKind.wrap .i64 (A.1-1);letI g:=Int.ofNat (List.length p);letI c:=List.getD p (Int.toNat A.1) (0,0);letI a:=!(M.val (fF (c.1,0,c.2)) false)||decide (c.2 > 9999);letI j:=(!a)=true;letI d:=(!a&&n)=true;letI i:=d->d/\True/\True;if decide (A.1<g)=true then M.ae (0<=A.1/\A.1<g) (M.ae (fF (c.1,0,c.2)).bY (M.ae ((!(!(M.val (fF (c.1,0,c.2)) false)))=true->(!(!(M.val (fF (c.1,0,c.2)) false)))=true/\True/\True) (M.ae ((!(!(M.val (fF (c.1,0,c.2)) false)))=true->((!(!(M.val (fF (c.1,0,c.2)) false)))=true/\True)/\True/\True) (M.ae (True/\((!(M.val (fF (c.1,0,c.2)) false))=false->(!(!(M.val (fF (c.1,0,c.2)) false)))=true)) (M.ae (j->(j/\True)/\True/\True) (M.ae (j->True/\True/\j) (M.ae i (M.ae i (M.ae (d->(d/\True)/\True/\True) (M.ae (d->(d/\d)/\(0<=k/\k<g)/\True) (M.ae i (M.ae i (M.ae (d->(d/\d)/\True/\True) (M.ae (j->(j/\(n=true->d))/\True/\True) (M.ae (True/\(a=false->j)) (if (a||n&&decide (c.1<=(List.getD p (Int.toNat k) (0,0)).2))=true then M.bind (M.bind (M.pure false) (λr=>M.pure (aa.done r))) λr=>M.pure (aa.done r) else M.pure (aa.next (IntKind.wrap .i64 (Add.add A.1 1),A.2.1,())))))))))))))))))) else M.bind (M.pure (aa.next ())) λr=>M.pure (aa.done r)) (0,A.1,())) (aa.bm (λ(A:Unit)=>M.pure true))))))))
def V7(x:aU×Int×Int×Int×Int×Int×Int):M Bool:=
 letI a:=decide (x.1.1=x.2.1);M.pure (a&&!(a&&(decide (x.1.2.1=x.2.2.1)&&(decide (x.1.2.2.1=x.2.2.2.1)&&(decide (x.1.2.2.2.1=x.2.2.2.2.1)&&(decide (x.1.2.2.2.2.1=x.cK)&&decide (x.1.2.2.2.2.2=x.2.2.2.2.2.2)))))))
def V8(j8:Int×Int×Int->M Bool)(x:Int×Int×Int):M Bool:=
 M.bind (j8 x) λy=>M.pure y
def aki(DE:Int->M Bool)(x:Option dE×Option Int):M Bool:=
 M.bind (DE (Option.getD x.2 0)) λy=>M.pure y
def V9(x:aQ×Int×Int):M Int:=
 M.bind (M.loop (λ(A:Int×Int×Int×z4'×Int×Int×Unit)=>letI c:=A.2.2.2;letI b:=IntKind.wrap .i64 (A.2.1-1);letI a:=List.getD c.1 (Int.toNat A.cK) (0,0);if decide (A.cK<c.2.1)=true then M.ae (0<=A.cK/\A.cK<Int.ofNat (List.length c.1)) (M.pure (aa.next (A.1,A.2.1,IntKind.wrap .i64 (A.2.2.1-(if IntKind.wrap .i64 (Add.add (IntKind.wrap .i64 ((if b<a.2 then b else a.2)-(if A.1 > a.1 then A.1 else a.1))) 1) > 0 then IntKind.wrap .i64 (Add.add (IntKind.wrap .i64 ((if b<a.2 then b else a.2)-(if A.1 > a.1 then A.1 else a.1))) 1) else 0)),c.1,c.2.1,IntKind.wrap .i64 (Add.add A.cK 1),()))) else M.bind (M.pure (aa.next (A.2.2.1,()))) λr=>M.pure (aa.done r)) (x.2.1,x.2.2,IntKind.wrap .i64 (x.2.2-x.2.1),x.1.2.2.2.1,Int.ofNat (List.length x.1.2.2.2.1),0,())) (aa.bm (λ(A:Int×Unit)=>M.pure A.1))
def V_(x:z4'):M (z4'):=
 M.bind (M.any (λb=>b=true->x=[])) λy=>if y=true then M.pure [] else M.ae (bT (Add.add 0 (List.length x))) (M.pure ([]++x))
def V'(ht:z1'×Int->M Bool)(x:aU×Option aQ):M Bool:=
 M.bind (ht ((Option.getD x.2 ([],[],[],[],0,0,0,0,0,0,0)).2.2.1,x.1.1)) λy=>M.pure y
def Wa(NN:List aU×(Int×Int×Int×Int×Int×Int->M Bool)->M Bool)(akj:aU×Option Int->M Bool)(x:Option dE×Option Int):M Bool:=
 M.ae (Option.isSome x.1=true) (M.bind (NN ((Option.getD x.1 (([],[],[],[],0,0,0,0,0,0,0),[],[])).2.1,λhg=>akj (hg,some (Option.getD x.2 0)))) (λy=>M.pure y))
def akk(NP:List aU×(Int×Int×Int×Int×Int×Int->M Bool)->M Int)(x:List aU×(Int×Int×Int×Int×Int×Int->M Bool)):M Bool:=
 M.bind (NP x) λy=>M.pure (decide (y>=0))
def akl(x:aU×Option Int):M Bool:=
 M.pure (decide (x.1.1=Option.getD x.2 0)&&decide (x.1.2.2.2.1=1))
def Wb(NM:Option dE×Option du->M (List bj->Prop))(x:Option du×Option (Option dE)×Option Int×Option (Int->M Int)):M (Int×Bool):=
 M.bind (NM (Option.getD x.2.1 none,x.1)) λy=>M.bind (M.any y) λL=>M.bind (jA (λ(A:Int×(Int->M Int)×Int×Bool×Unit) (y:aU×Int)=>M.bind (if decide (y.1.1=A.1)=true then M.bind (A.2.1 y.2) λy=>M.pure (cQ.ret,y,true,()) else M.pure (cQ.normal,A.2.2.1,A.2.2.2.1,())) λp=>M.pure (p.1,A.1,A.2.1,p.2.1,p.2.2.1,())) L (Option.getD x.2.2.1 0,Option.getD x.2.2.2 λx=>{ bY:=False,bC:=λx=>False },0,false,())) λp=>r4 (M.pure (0,false)) (λid=>if id=0 then M.pure (0,false) else M.fail) (M.pure (p.2.2.2.1,p.2.2.2.2.1)) p.1
def Wc(jh:Int×Int×Int->M Bool)(x:Int×Int×Int×Int×Int×Int×Int):M Bool:=
 M.bind (M.loop (λ(A:Int×Int×pf×z1'×Unit)=>letI a:=A.2;if decide (a.1<A.1)=true then M.ae (0<=a.1/\a.1<Int.ofNat (List.length a.2.2.1)) (M.bind (jh (List.getD a.2.2.1 (Int.toNat a.1) 0,0,100000)) (λy=>if (!y)=true then M.bind (M.bind (M.pure false) (λr=>M.pure (aa.done r))) λr=>M.pure (aa.done r) else M.pure (aa.next (A.1,IntKind.wrap .i64 (Add.add a.1 1),a.2.1,a.2.2.1,())))) else M.bind (M.pure (aa.next (a.2.1,()))) λr=>M.pure (aa.done r)) (Int.ofNat (Add.add (Add.add (Add.add (Add.add 0 1) 1) 1) 1),0,x,[x.2.2.1,x.2.2.2.1,x.cK,x.2.2.2.2.2.2],())) (aa.bm (λ(A:pf×Unit)=>M.bind (jh (A.1.1,0,9999)) λy=>M.bind (b1 y (jh (A.1.2.1,1,9999)) false) λbL=>M.bind (b1 (y&&bL) (jh (A.1.2.2.2.2.1,1,9999)) false) λdq=>M.pure (y&&bL&&dq)))
def Wd(akm:aQ×Int×Int×Int×Int×Int×Int->M Bool)(x:aU×Option aQ):M Bool:=
 M.bind (akm (Option.getD x.2 ([],[],[],[],0,0,0,0,0,0,0),x.1)) λy=>M.pure (!y)
def We(jh:Int×Int×Int->M Bool)(Ad:Int->M Bool)(x:aQ×Int×Int×Int×Int×Int×Int):M Bool:=
 letI c:=x.2.2.2.2;letI a:=decide (c.1=1)||decide (c.1=2)&&decide (c.2.2=0);M.bind (b1 a (Ad x.2.1) false) λy=>M.bind (b1 (a&&y) (Ad c.2.2) false) λbL=>M.bind (b1 (a&&y&&bL) (jh (x.2.2.1,0,IntKind.wrap .i64 (Int.ofNat (List.length x.1.1)-1))) false) λdq=>letI b:=a&&y&&bL&&dq;M.bind (b1 b (jh (x.2.2.2.1,0,9999)) false) λgn=>M.bind (b1 (b&&gn) (jh (x.cK,0,9)) false) λk7=>M.pure (b&&gn&&k7)
def Wf(Ad:Int->M Bool)(x:Int):M Bool:=
 M.bind (Ad x) λy=>M.pure (!y)
def akn(ako:Option (List (Int×aU))->z1'->Prop)(x:List (Int×aU)):M (z1'->Prop):=
 M.pure (ako (some x))
def Wg(fF:Int×Int×Int->M Bool)(x:Int×Int×Int×Int×Int×Int×Int):M Bool:=
 M.bind (fF (x.1,0,9999)) λy=>M.bind (b1 y (fF (x.2.1,1,9999)) false) λbL=>M.bind (b1 (y&&bL) (fF (x.2.2.2.2.1,1,9999)) false) λdq=>M.bind (b1 (y&&bL&&dq) (fF (x.2.2.1,0,100000)) false) λgn=>letI a:=y&&bL&&dq&&gn;M.bind (b1 a (fF (x.2.2.2.1,0,100000)) false) λk7=>M.bind (b1 (a&&k7) (fF (x.cK,0,100000)) false) λDy=>M.bind (b1 (a&&k7&&Dy) (fF (x.2.2.2.2.2.2,0,100000)) false) λNz=>M.pure (a&&k7&&Dy&&Nz)
def Wh(fF:Int×Int×Int->M Bool)(x:aQ×Int×Int×Int×Int×Int×Int):M Bool:=
 letI b:=x.2.2.2.2;M.bind (fF (x.2.1,0,99)) λy=>M.bind (b1 (!(!y)) (fF (x.2.2.1,0,IntKind.wrap .i64 (Int.ofNat (List.length x.1.1)-1))) false) λbL=>M.bind (b1 (!(!y||!bL)) (fF (x.2.2.2.1,0,9999)) false) λdq=>letI a:=!y||!bL||!dq;M.bind (b1 (!a) (fF (x.cK,0,9)) false) λgn=>M.bind (b1 (!(a||!gn)) (fF (b.2.2,0,99)) false) λk7=>if (a||!gn||!k7)=true then M.pure false else M.pure (decide (b.1=1)||decide (b.1=2)&&decide (b.2.2=0))
def Wi(axV:Int->M Int)(akp:Int->M Int)(x:Int):M Int:=
 M.bind (akp x) λy=>M.pure y
def akq(x:List aU×(Int×Int×Int×Int×Int×Int->M Bool)):M Int:=
 M.bind (M.loop (λ(A:List aU×(Int×Int×Int×Int×Int×Int->M Bool)×Int×Int×Unit)=>letI a:=A.2.2.2.1;if decide (a<A.2.2.1)=true then M.ae (0<=a/\a<Int.ofNat (List.length A.1)) (M.bind (A.2.1 (List.getD A.1 (Int.toNat a) (0,0,0,0,0,0))) (λy=>if y=true then M.bind (M.bind (M.pure a) (λr=>M.pure (aa.done r))) λr=>M.pure (aa.done r) else M.pure (aa.next (A.1,A.2.1,A.2.2.1,IntKind.wrap .i64 (Add.add a 1),())))) else M.bind (M.pure (aa.next ())) λr=>M.pure (aa.done r)) (x.1,x.2,Int.ofNat (List.length x.1),0,())) (aa.bm (λ(A:Unit)=>M.pure (-1)))
def DF(x:Int):M Int:=
 M.bind (if decide (x>=4294967296)=true then M.ae ((0:Int)<=32) (M.pure (aa.next (iZ .u64 x 32,32,()))) else M.pure (aa.next (x,0,()))) (aa.bm (λ(A:Int×Int×Unit)=>M.bind (if decide (A.1>=65536)=true then M.ae ((0:Int)<=16) (M.pure (aa.next (iZ .u64 A.1 16,IntKind.wrap .i64 (Add.add A.2.1 16),()))) else M.pure (aa.next (A.1,A.2.1,()))) (aa.bm (λ(A:Int×Int×Unit)=>M.bind (if decide (A.1>=256)=true then M.ae ((0:Int)<=8) (M.pure (aa.next (iZ .u64 A.1 8,IntKind.wrap .i64 (Add.add A.2.1 8),()))) else M.pure (aa.next (A.1,A.2.1,()))) (aa.bm (λ(A:Int×Int×Unit)=>letI a:=IntKind.wrap .u8 A.1;M.ae (0<=a/\a<Int.ofNat 256) (M.pure (IntKind.wrap .i64 (Add.add A.2.1 (IntKind.wrap .i64 (Int.ofNat (List.getD ajP (Int.toNat a) 0).1.1.1)))))))))))
def Wj(x:z1'):M (z1'):=
 M.bind (M.any (λb=>b=true->x=[])) λy=>if y=true then M.pure [] else M.ae (bT (Add.add 0 (List.length x))) (M.pure ([]++x))
def Wk(akr:Int×Int->M Int)(x:bj×aU×Int):M Int:=
 M.bind (akr (x.1.2,x.2.2)) λy=>M.pure y
def Wl(Wm:Int->M Bool)(x:Int×Int):M Int:=
 M.bind (Wm x.1) λy=>M.bind (Wm x.2) λbL=>if y=true then if bL=true then M.pure 0 else M.pure (-1) else if bL=true then M.pure 1 else if decide (x.1<x.2)=true then M.pure (-1) else if decide (x.1 > x.2)=true then M.pure 1 else M.pure 0
def Wn(x:Int):M Bool:=
 M.pure (decide (x≠x))
def Wo(x:(z1'->Prop)×Unit):M (z1'×Unit):=
 M.bind (M.any x.1) λL=>M.bind (jA (λ(A:z1'×Unit) (y:Int)=>M.bind (M.ae (bT (Add.add (List.length A.1) (Add.add 0 1))) (M.pure (cQ.normal,A.1++[y],()))) λp=>M.pure (p.1,p.2.1,())) L ([],())) λp=>r4 (M.pure (p.2.1,())) (λid=>if id=0 then M.pure (p.2.1,()) else M.fail) M.fail p.1
def Wp(aks:(z1'->Prop)×Unit->M (z1'×Unit))(x:(z1'->Prop)×Unit):M (z1'×Unit):=
 M.bind (aks (x.1,())) λy=>M.pure (y.1,())
def Wq(NP:List aU×(Int×Int×Int×Int×Int×Int->M Bool)->M Int)(x:(Int×Int×Int×Int×Int×Int->M Bool)×List aU×Unit):M ((Nat×Nat)×List aU×Unit):=
 M.bind (NP (x.2.1,x.1)) λy=>if decide (y=-1)=true then M.pure ((0,List.length x.2.1),x.2.1,()) else M.bind (M.loop (λ(A:(Int×Int×Int×Int×Int×Int->M Bool)×Int×Int×List aU×Unit)=>letI g:=A.2.1;letI f:=A.2.2;letI e:=List.getD f.2.1 (Int.toNat f.1) (0,0,0,0,0,0);letI c:=Int.ofNat (List.length f.2.1);if decide (f.1<c)=true then M.bind (M.ae (0<=f.1/\f.1<c) (M.bind (A.1 e) (λy=>if (!y)=true then M.ae (0<=g/\g<c) (M.pure (aa.next (A.1,IntKind.wrap .i64 (Add.add g 1),f.1,List.set f.2.1 (Int.toNat g) e,()))) else M.pure (aa.next (A.1,g,f.1,f.2.1,()))))) (aa.bm (λ(A:(Int×Int×Int×Int×Int×Int->M Bool)×Int×Int×List aU×Unit)=>M.pure (aa.next (A.1,A.2.1,IntKind.wrap .i64 (Add.add A.2.2.1 1),A.2.2.2.1,())))) else M.bind (M.pure (aa.next (g,f.2.1,()))) λr=>M.pure (aa.done r)) (x.1,y,IntKind.wrap .i64 (Add.add y 1),x.2.1,())) (aa.bm (λ(A:Int×List aU×Unit)=>letI d:=Int.toNat A.1;letI b:=Int.ofNat (List.length A.2.1);letI a:=List.take d A.2.1++List.replicate (Int.toNat b-d) (0,0,0,0,0,0)++List.drop (Add.add d (List.length (List.replicate (Int.toNat b-d) ((0,0,0,0,0,0):aU)))) A.2.1;M.ae (0<=A.1/\A.1<=b/\b<=b) (M.ae True (M.ae ((0:Int)<=0/\0<=A.1/\A.1<=Int.ofNat (List.length a)) (M.pure ((Int.toNat 0,d),a,()))))))
def Hj(Ab:aQ×Int×Int->M Int)(x:Nat×Option du×Option dE×(Nat×(List bj->Prop)×List bj×Bool)×Unit):M ((Nat×(List bj->Prop)×List bj×Bool)×Unit):=
 M.ae (Option.isSome x.2.1=true) (M.loop (λ(A:Nat×Option dE×List (List bj)×Int×(Nat×(List bj->Prop)×List bj×Bool)×Unit)=>letI g:=A.2.2.2;if decide (g.1<10)=true then M.bind (M.ae (0<=g.1/\g.1<Int.ofNat 10) (M.loop (λ(A:Nat×Option dE×List bj×Int×List (List bj)×Int×(Nat×(List bj->Prop)×List bj×Bool)×Unit)=>letI h:=A.e8;letI f:=A.2.2;letI d:=Int.ofNat (List.length f.1);letI i:=0<=f.2.1/\f.2.1<d;letI c:=IntKind.wrap .i64 (Add.add f.2.1 1);letI b:=List.getD f.1 (Int.toNat f.2.1) ((0,0,0,0,0,0),0);letI a:=((Option.getD A.2.1 (([],[],[],[],0,0,0,0,0,0,0),[],[])).1,b.2,(List.getD f.1 (Int.toNat c) ((0,0,0,0,0,0),0)).2);if decide (c<d)=true then M.ae i (M.ae (Option.isSome A.2.1=true) (M.ae i (M.ae (0<=c/\c<d) (M.ae (Ab a).bY (M.bind (M.ae (A.1=h.1/\h.2.2.2=false/\(∃ (T:List bj),h.2.1 (h.2.2.1++(b.1,M.val (Ab a) 0)::T))) (M.any (λx=>True))) (λy=>letI e:=(h.1,h.2.1,h.2.2.1++[(b.1,M.val (Ab a) 0)],!y);if (!y)=true then M.bind (M.bind (M.bind (M.pure (e,())) (λr=>M.pure (aa.done r))) (λr=>M.pure (aa.done r))) λr=>M.pure (aa.done r) else M.pure (aa.next (A.1,A.2.1,f.1,IntKind.wrap .i64 (Add.add f.2.1 2),f.2.2.1,A.cK,e,())))))))) else M.bind (M.pure (aa.next (A.1,A.2.1,f.2.2.1,A.cK,h,()))) λr=>M.pure (aa.done r)) (A.1,A.2.1,List.getD A.2.2.1 (Int.toNat g.1) [],0,A.2.2.1,g.1,g.2.1,()))) (aa.bm (λ(A:Nat×Option dE×List (List bj)×Int×(Nat×(List bj->Prop)×List bj×Bool)×Unit)=>M.pure (aa.next (A.1,A.2.1,A.2.2.1,IntKind.wrap .i64 (Add.add A.2.2.2.1 1),A.2.2.2.2.1,())))) else M.bind (M.pure (g.2.1,())) λr=>M.pure (aa.done r)) (x.1,x.2.2.1,(Option.getD x.2.1 ([],[[],[],[],[],[],[],[],[],[],[]])).2,0,x.2.2.2.1,()))
def Wr(x:Int×Int×(bj×aU×Int->M Int)×List bj×Unit):M (List bj×Unit):=
 M.loop (λ(A:Int×Int×(bj×aU×Int->M Int)×Int×List bj×Unit)=>letI i:=A.2.2.2;if decide (i.1<A.2.1)=true then M.bind (M.loop (λ(A:Int×Int×(bj×aU×Int->M Int)×Int×Int×List bj×Unit)=>letI k:=A.2.2;letI d:=Int.ofNat (List.length A.cK);letI c:=k.2.2.1;letI j:=0<=c/\c<d;letI g:=decide (c > A.1);letI f:=List.getD A.cK (Int.toNat c) ((0,0,0,0,0,0),0);letI b:=IntKind.wrap .i64 (c-1);letI e:=List.getD A.cK (Int.toNat b) ((0,0,0,0,0,0),0);letI h:=List.set A.cK (Int.toNat c) e;letI a:=g=true;letI l:=a->a/\True/\True;M.ae (a->(a/\a)/\j/\True) (M.ae l (M.ae (a->(a/\True)/\True/\True) (M.ae (a->(a/\a)/\(0<=b/\b<d)/\True) (M.ae l (M.ae (a->a/\a/\a/\True) (M.bind (b1 g (k.1 (f,e)) 0) (λy=>if (g&&decide (y<0))=true then M.ae (0<=b/\b<d) (M.ae j (M.ae j (M.ae (0<=b/\b<Int.ofNat (List.length h)) (M.pure (aa.next (A.1,A.2.1,k.1,k.2.1,b,List.set h (Int.toNat b) f,())))))) else M.bind (M.pure (aa.next (A.1,A.2.1,k.1,k.2.1,A.cK,()))) λr=>M.pure (aa.done r))))))))) (A.1,A.2.1,A.2.2.1,i.1,i.1,i.2.1,())) (aa.bm (λ(A:Int×Int×(bj×aU×Int->M Int)×Int×List bj×Unit)=>M.pure (aa.next (A.1,A.2.1,A.2.2.1,IntKind.wrap .i64 (Add.add A.2.2.2.1 1),A.2.2.2.2.1,())))) else M.bind (M.pure (i.2.1,())) λr=>M.pure (aa.done r)) (x.1,x.2.1,x.2.2.1,IntKind.wrap .i64 (Add.add x.1 1),x.2.2.2.1,())
def NQ(x:Nat×z4'×(Nat×(z1'->Prop)×z1'×Bool)×Unit):M ((Nat×(z1'->Prop)×z1'×Bool)×Unit):=
 M.bind (M.pure ()) λy=>M.loop (λ(A:Nat×(Nat×(z1'->Prop)×z1'×Bool)×(Option (Int×Int)×z4')×Unit)=>letI c:=A.2.1;letI b:=A.2.2.1;M.bind (FT b.2) λy=>if Option.isSome y=true then M.bind (M.ae (Option.isSome (nD b.1 b.2 y)=true) (M.pure ())) λbL=>M.bind (M.ae (A.1=c.1/\c.2.2.2=false/\(∃ (T:z1'),c.2.1 (c.2.2.1++Option.getD (Option.map (λx=>x.1) (nD b.1 b.2 y)) 0::T))) (M.any (λx=>True))) λdq=>letI a:=(c.1,c.2.1,c.2.2.1++[Option.getD (Option.map (λx=>x.1) (nD b.1 b.2 y)) 0],!dq);if (!dq)=true then M.bind (M.pure (a,())) λr=>M.pure (aa.done r) else M.pure (aa.next (A.1,a,(nD b.1 b.2 y,Cs b.2 y),())) else M.bind (M.pure (c,())) λr=>M.pure (aa.done r)) (x.1,x.2.2.1,(none,x.2.1),())
def NR(x:Nat×List (Int×aU)×(Nat×(z1'->Prop)×z1'×Bool)×Unit):M ((Nat×(z1'->Prop)×z1'×Bool)×Unit):=
 M.bind (M.pure ()) λy=>M.loop (λ(A:Nat×(Nat×(z1'->Prop)×z1'×Bool)×(Option pf×List (Int×aU))×Unit)=>letI c:=A.2.1;letI b:=A.2.2.1;M.bind (FT b.2) λy=>if Option.isSome y=true then M.bind (M.ae (Option.isSome (nD b.1 b.2 y)=true) (M.pure ())) λbL=>M.bind (M.ae (A.1=c.1/\c.2.2.2=false/\(∃ (T:z1'),c.2.1 (c.2.2.1++Option.getD (Option.map (λx=>x.1) (nD b.1 b.2 y)) 0::T))) (M.any (λx=>True))) λdq=>letI a:=(c.1,c.2.1,c.2.2.1++[Option.getD (Option.map (λx=>x.1) (nD b.1 b.2 y)) 0],!dq);if (!dq)=true then M.bind (M.pure (a,())) λr=>M.pure (aa.done r) else M.pure (aa.next (A.1,a,(nD b.1 b.2 y,Cs b.2 y),())) else M.bind (M.pure (c,())) λr=>M.pure (aa.done r)) (x.1,x.2.2.1,(none,x.2.1),())
def akt(DC:(z1'->Prop)->M (z1'))(NO:List (Int×aU)->M (z1'->Prop))(x:List aU×Unit):M (Bool×List aU×Unit):=
 M.bind (M.loop (λ(A:List aU×Int×Int×List (Int×aU)×Unit)=>letI e:=A.2.2;letI b:=List.getD A.1 (Int.toNat e.1) (0,0,0,0,0,0);letI c:=Option.map (λx=>x.2) (List.find? (λp=>decide (b.1=p.1)) e.2.1);letI a:=Option.getD c (0,0,0,0,0,0);if decide (e.1<A.2.1)=true then M.ae (0<=e.1/\e.1<Int.ofNat (List.length A.1)) (if (Option.isSome c&&!(decide (a.1=b.1)&&(decide (a.2.1=b.2.1)&&(decide (a.2.2.1=b.2.2.1)&&(decide (a.2.2.2.1=b.2.2.2.1)&&(decide (a.2.2.2.2.1=b.2.2.2.2.1)&&decide (a.2.2.2.2.2=b.2.2.2.2.2)))))))=true then M.bind (M.bind (M.pure (false,[],())) (λr=>M.pure (aa.done r))) λr=>M.pure (aa.done r) else M.pure (aa.next (A.1,A.2.1,IntKind.wrap .i64 (Add.add e.1 1),kH e.2.1 b.1 b,()))) else M.bind (M.pure (aa.next (e.2.1,()))) λr=>M.pure (aa.done r)) (x.1,Int.ofNat (List.length x.1),0,[],())) (aa.bm (λ(A:List (Int×aU)×Unit)=>M.bind (M.bind (NO A.1) (λy=>M.bind (DC y) λy=>M.loop (λ(A:z1'×Int×Int×List aU×List (Int×aU)×Unit)=>letI d:=A.2.2;if decide (d.1<A.2.1)=true then M.ae (0<=d.1/\d.1<Int.ofNat (List.length A.1)) (M.ae (bT (Add.add (List.length d.2.1) (Add.add 0 1))) (M.pure (aa.next (A.1,A.2.1,IntKind.wrap .i64 (Add.add d.1 1),d.2.1++[Option.getD (Option.map (λx=>x.2) (List.find? (λp=>decide (List.getD A.1 (Int.toNat d.1) 0=p.1)) d.2.2.1)) (0,0,0,0,0,0)],d.2.2.1,())))) else M.bind (M.pure (aa.next (d.2.1,()))) λr=>M.pure (aa.done r)) (y,Int.ofNat (List.length y),0,[],A.1,()))) (aa.bm (λ(A:List aU×Unit)=>M.pure (true,A.1,())))))
abbrev k8:Type:=List bj×List bj×List bj×List bj×List bj×List bj×List bj×List bj×List bj×List bj×gU
def mh:Nat->k8->List bj
 | 0,r=>r.1
 | 1,r=>r.2.1
 | 2,r=>r.2.2.1
 | 3,r=>r.2.2.2.1
 | 4,r=>r.2.2.2.2.1
 | 5,r=>r.2.2.2.2.2.1
 | 6,r=>r.2.2.2.2.2.2.1
 | 7,r=>r.2.2.2.2.2.2.2.1
 | 8,r=>r.2.2.2.2.2.2.2.2.1
 | 9,r=>r.2.2.2.2.2.2.2.2.2.1
 | _,_=>[]
def Hk:Nat->List bj->k8->k8
 | 0,v,r=>(v,r.2)
 | 1,v,r=>(r.1,v,r.2.2)
 | 2,v,r=>(r.1,r.2.1,v,r.2.2.2)
 | 3,v,r=>(r.1,r.2.1,r.2.2.1,v,r.2.2.2.2)
 | 4,v,r=>(r.1,r.2.1,r.2.2.1,r.2.2.2.1,v,r.2.2.2.2.2)
 | 5,v,r=>(r.1,r.2.1,r.2.2.1,r.2.2.2.1,r.2.2.2.2.1,v,r.2.2.2.2.2.2)
 | 6,v,r=>(r.1,r.2.1,r.2.2.1,r.2.2.2.1,r.2.2.2.2.1,r.2.2.2.2.2.1,v,r.2.2.2.2.2.2.2)
 | 7,v,r=>(r.1,r.2.1,r.2.2.1,r.2.2.2.1,r.2.2.2.2.1,r.2.2.2.2.2.1,r.2.2.2.2.2.2.1,v,r.2.2.2.2.2.2.2.2)
 | 8,v,r=>(r.1,r.2.1,r.2.2.1,r.2.2.2.1,r.2.2.2.2.1,r.2.2.2.2.2.1,r.2.2.2.2.2.2.1,r.2.2.2.2.2.2.2.1,v,r.2.2.2.2.2.2.2.2.2)
 | 9,v,r=>(r.1,r.2.1,r.2.2.1,r.2.2.2.1,r.2.2.2.2.1,r.2.2.2.2.2.1,r.2.2.2.2.2.2.1,r.2.2.2.2.2.2.2.1,r.2.2.2.2.2.2.2.2.1,v,r.2.2.2.2.2.2.2.2.2.2)
 | _,_,r=>r
abbrev Ws(r:k8):gU:=r.2.2.2.2.2.2.2.2.2.2
def NS{X:Type}(l:List bj)(x:bj)(i k:Int)(aI B:M X):M X:=
 letI z:=decide (i > 0);letI y:=IntKind.wrap .i64 (i-1);letI n:=decide (x.1.2.2.2.1≠k);letI m:=(!n)=true;letI b:=(!n&&z)=true;letI c:=b->b/\True/\True;M.ae (m->(m/\True)/\True/\True) (M.ae (m->True/\True/\m) (M.ae c (M.ae (b->(b/\True)/\True/\True) (M.ae (b->(b/\b)/\(0<=y/\y<Int.ofNat (List.length l))/\True) (M.ae c (M.ae c (M.ae (b->(b/\b)/\True/\True) (M.ae (m->(m/\(z=true->b))/\True/\True) (M.ae (True/\(n=false->m)) (if (n||z&&decide (x.2=(List.getD l (Int.toNat y) ((0,0,0,0,0,0),0)).2))=true then aI else B))))))))))
def Hl(k:Nat)(A:Int×Int×Int×z1'×k8):M (aa (Int×Int×Int×z1'×k8) (aa (Int×z1'×k8) (aa (z1'×k8) (Option du×Bool×gU)))):=
 letI i:=A.2.2.1;letI l:=mh k A.2.2.2.2;letI x:=List.getD l (Int.toNat i) ((0,0,0,0,0,0),0);if decide (i<A.2.1)=true then M.ae (0<=i/\i<Int.ofNat (List.length l)) (M.bind (M.ae ((2:Int)≠0) (if decide (Int.tmod i (2:Int)=1)=true then M.pure (aa.next (i,2,A.1,A.2.1,i,x,A.2.2.2)) else M.pure (aa.next (i,1,A.1,A.2.1,i,x,A.2.2.2)))) (aa.bm (λ(τ:Int×Int×Int×Int×Int×bj×z1'×k8)=>letI r:=τ.2.2.2.2.2.2.2;NS (mh k r) τ.2.2.2.2.2.1 τ.1 τ.2.1 (M.bind (M.bind (M.bind (M.pure (none,false,Ws r)) (λr=>M.pure (aa.done r))) (λr=>M.pure (aa.done r))) λr=>M.pure (aa.done r)) (M.pure (aa.next (τ.2.2.1,τ.2.2.2.1,IntKind.wrap .i64 (Add.add τ.2.2.2.2.1 1),τ.2.2.2.2.2.2)))))) else M.bind (M.pure (aa.next (A.1,A.2.2.2))) λr=>M.pure (aa.done r)
def DG(Wt:(bj×aU×Int->M Int)×List bj×Unit->M (List bj×Unit))(Wu:bj×aU×Int->M Int):Nat->Nat->z1'×k8->M (aa (z1'×k8) (Option du×Bool×gU))
 | 0,_,s=>M.pure (.next s)
 | n+1,k,s=>M.bind (M.ae (0<=Int.ofNat k/\Int.ofNat k<Int.ofNat 10) (M.bind (Wt (Wu,mh k s.2,())) (λy=>M.loop (Hl k) (Int.ofNat k,Int.ofNat (List.length y.1),0,s.1,Hk k y.1 s.2)))) (aa.bm (λ(τ:Int×z1'×k8)=>M.ae (IntKind.wrap .i64 (Add.add τ.1 1)=Int.ofNat (k+1)) (DG Wt Wu n (k+1) τ.2)))
def Hm{X:Type}(f:Nat->M X)(v:Int):Nat->M X
 | 0=>f 0
 | n+1=>if v=Int.ofNat (Add.add n 1) then f (n+1) else Hm f v n
def Wv{X:Type}(A:z1'×List aU×Int×Int×z1'×k8)(u:Nat):M (aa (z1'×List aU×Int×Int×z1'×k8) X):=
 letI a:=List.getD A.2.1 (Int.toNat A.2.2.2.1) (0,0,0,0,0,0);letI r:=A.2.2.2.2.2;letI p:=0<=Int.ofNat u/\Int.ofNat u<Int.ofNat 10;M.ae True (M.ae p (M.ae (0<=a.2.1/\a.2.1<Int.ofNat (List.length A.1)) (M.ae (bT (Add.add (List.length (mh u r)) (Add.add 0 1))) (M.ae True (M.ae p (M.pure (aa.next (A.1,A.2.1,A.2.2.1,A.2.2.2.1,A.2.2.2.2.1,Hk u (mh u r++[((a.1,a.2.1,a.2.2.1,a.2.2.2.1,Int.ofNat u,a.2.2.2.2.2),IntKind.wrap .i64 (Add.add a.2.2.1 (List.getD A.1 (Int.toNat a.2.1) 0)))]) r))))))))
def Ww(aku:z1'->M (z1'))(akv:(bj×aU×Int->M Int)×List bj×Unit->M (List bj×Unit))(akw:bj×aU×Int->M Int)(x:z1'×gU):M (Option du×Bool×gU):=
 M.bind (M.bind (aku x.1) (λy=>M.pure (aa.next (x.1,y,x.2.1,x.2.2.1,x.2.2.2.1,x.2.2.2.2.1,x.cK,x.e8,x.gy,x.ib,x.jF,x.kI,x.hz,x.mO,x.pg,[],[],[],[],[],[],[],[],[],[],())))) (aa.bm (λ(A:z1'×z1'×z4'×List aU×z1'×z4'×Int×Int×Int×Int×Int×Int×Int×List aU×List (Option du)×List bj×List bj×List bj×List bj×List bj×List bj×List bj×List bj×List bj×List bj×Unit)=>M.bind (M.ae True (M.loop (λ(A:z1'×List aU×Int×Int×z1'×k8)=>letI a:=List.getD A.2.1 (Int.toNat A.2.2.2.1) (0,0,0,0,0,0);letI u:=a.2.2.2.2.1;if decide (A.2.2.2.1<A.2.2.1)=true then M.bind (M.ae (0<=A.2.2.2.1/\A.2.2.2.1<Int.ofNat (List.length A.2.1)) (M.ae (0<=u/\u<Int.ofNat 10) (Hm (Wv A) u 9))) (aa.bm (λ(A:z1'×List aU×Int×Int×z1'×k8)=>M.pure (aa.next (A.1,A.2.1,A.2.2.1,IntKind.wrap .i64 (Add.add A.2.2.2.1 1),A.2.2.2.2)))) else M.bind (M.pure (aa.next A.2.2.2.2)) λr=>M.pure (aa.done r)) (A.1,A.pg,Int.ofNat (List.length A.pg),0,A.2.1,A.xQ,A.Dz,A.NC,A.ND,A.NF,A.NG,A.ajQ,A.NH,A.re,A.DA,A.2.2.1,A.2.2.2.1,A.2.2.2.2.1,A.cK,A.e8,A.gy,A.ib,A.jF,A.kI,A.hz,A.mO,A.pg,A.sq,()))) (aa.bm (λ(A:z1'×k8)=>M.bind (M.ae True (M.ae (0=Int.ofNat 0) (DG akv akw 10 0 A))) (aa.bm (λ(A:z1'×k8)=>M.pure (some (A.1,[mh 0 A.2,mh 1 A.2,mh 2 A.2,mh 3 A.2,mh 4 A.2,mh 5 A.2,mh 6 A.2,mh 7 A.2,mh 8 A.2,mh 9 A.2]),true,Ws A.2)))))))
def Wx(akx:Int×Int×(bj×aU×Int->M Int)×List bj×Unit->M (List bj×Unit))(x:Int×Int×Int×(bj×aU×Int->M Int)×List bj×Unit):M (List bj×Unit):=
 M.loop (λ(A:Int×Int×Int×(bj×aU×Int->M Int)×Bool×Bool×List bj×Unit)=>if decide (IntKind.wrap .i64 (A.2.1-A.1)<=12)=true then M.bind (akx (A.1,A.2.1,A.2.2.2.1,A.e8,())) λy=>M.bind (M.pure (y.1,())) λr=>M.pure (aa.done r) else M.fail) (x.1,x.2.1,x.2.2.1,x.2.2.2.1,true,true,x.2.2.2.2.1,())
def Wy(NK:z1'×gU->M (gU))(aky:z1'×gU->M (Option du×Bool×gU))(x:z1'×gU):M (gU):=
 letI d:=Int.ofNat (List.length x.2.1);letI a:=Int.ofNat (List.length x.1);M.ae True (if decide (a=d)=true then M.bind (M.bind (aky (x.1,x.2.1,x.2.2.1,x.2.2.2.1,x.2.2.2.2.1,x.cK,x.e8,x.gy,x.ib,x.jF,x.kI,x.hz,x.mO,x.pg,())) (λy=>if y.2.1=true then M.ae True (M.ae (bT (Add.add (List.length y.sq) (Add.add 0 1))) (M.ae True (M.pure (aa.next (y.2.2.1,y.2.2.2.1,y.2.2.2.2.1,y.cK,y.e8,y.gy,y.ib,y.jF,y.kI,y.hz,y.mO,y.pg,y.sq++[y.1],()))))) else M.pure (aa.next (y.2.2.1,y.2.2.2.1,y.2.2.2.2.1,y.cK,y.e8,y.gy,y.ib,y.jF,y.kI,y.hz,y.mO,y.pg,y.sq,())))) (aa.bm (λ(A:gU)=>M.pure (A.1,A.2.1,A.2.2.1,A.2.2.2.1,A.2.2.2.2.1,A.cK,A.e8,A.gy,A.ib,A.jF,A.kI,A.hz,A.mO,()))) else M.ae True (M.ae (0<=a/\a<d) (M.loop (λ(A:z1'×Int×Int×gU)=>letI c:=A.2.2;letI b:=A.2.1;letI e:=List.take (Int.toNat b) A.1;M.ae True (M.ae (0<=b/\b<Int.ofNat (List.length c.2.1)) (if decide (c.1<=(List.getD c.2.1 (Int.toNat b) (0,0)).2)=true then M.ae ((0:Int)<=0/\0<=b/\b=b/\b<=Int.ofNat (List.length A.1)) (M.ae (0<Add.add 0 1/\bT (Add.add (List.length e) (Add.add 0 1))) (M.bind (NK (e++[c.1],c.2.1,c.2.2.1,A.cK,A.e8,A.gy,A.ib,A.jF,A.kI,A.hz,A.mO,A.pg,A.sq,A.xQ,())) (λy=>M.pure (aa.next (A.1,b,IntKind.wrap .i64 (Add.add c.1 1),y.1,y.2.1,y.2.2.1,y.2.2.2.1,y.2.2.2.2.1,y.cK,y.e8,y.gy,y.ib,y.jF,y.kI,y.hz,y.mO,()))))) else M.bind (M.pure (c.2.1,c.2.2.1,A.cK,A.e8,A.gy,A.ib,A.jF,A.kI,A.hz,A.mO,A.pg,A.sq,A.xQ,())) λr=>M.pure (aa.done r)))) (x.1,a,(List.getD x.2.1 (Int.toNat a) (0,0)).1,x.2.1,x.2.2.1,x.2.2.2.1,x.2.2.2.2.1,x.cK,x.e8,x.gy,x.ib,x.jF,x.kI,x.hz,x.mO,x.pg,()))))
def Wz(akz:Int->M Int)(akA:Int×Int×Int×(bj×aU×Int->M Int)×List bj×Unit->M (List bj×Unit))(x:(bj×aU×Int->M Int)×List bj×Unit):M (List bj×Unit):=
 letI a:=Int.ofNat (List.length x.2.1);M.bind (akz (IntKind.wrap .u64 a)) λy=>M.bind (akA (0,a,y,x.1,x.2.1,())) λy=>M.pure (y.1,())
end Go.Fer.H
namespace Go.Fer.H
open M (aa)
abbrev tI:af:=.int .i64
abbrev cN:af:=.bool
abbrev fm:af:=.slice tI
abbrev mi:af:=.st (.aw tI tI)
abbrev NT:af:=.st (.aw tI (.aw tI (.aw tI (.aw tI (.aw tI (.aw tI tI))))))
abbrev ji:af:=.st (.aw (.slice mi) (.aw (.slice gV) (.aw fm (.aw (.slice mi) NT))))
abbrev Hn:af:=.st (.aw gV tI)
abbrev xR:af:=.st (.aw fm (.array 10 (.slice Hn)))
abbrev ss:af:=.st (.aw ji (.aw (.slice gV) (.slice (.bq xR))))
attribute [simp] qc UT vr M.c_ M.ES M.QO M.fY M.fi M.mf M.iR M.j6 M.bK M.pb b2 hX MV aa.gT
section
variable {aj:Type}
def xS(d:aj)(x:List aj×(aj->M Bool)):M Int:=
 M.bind (M.loop (λ(A:List aj×(aj->M Bool)×Int×Int×Unit)=>if decide (A.2.2.2.1<A.2.2.1)=true then M.ae (0<=A.2.2.2.1/\
 A.2.2.2.1<Int.ofNat (List.length A.1)) (M.bind (A.2.1 (List.getD A.1 (Int.toNat A.2.2.2.1) d)) λy=>if y=true then M.bind (M.bind (M.pure
 A.2.2.2.1) λr=>M.pure (aa.done r)) λr=>M.pure (aa.done r) else M.pure (aa.next (A.1,A.2.1,A.2.2.1,IntKind.wrap .i64 (Add.add
 A.2.2.2.1 1),()))) else M.bind (M.pure (aa.next ())) λr=>M.pure (aa.done r)) (x.1,x.2,Int.ofNat (List.length x.1),0,())) (aa.bm λ(A
 : Unit)=>M.pure (-1))
def DH(c:List aj×(aj->M Bool)->M Int)(x:List aj×(aj->M Bool)):M Bool:=M.bind (c x) λy=>M.pure (decide (y>=0))
def hA(p:aj->Bool):List aj->Int->Int
 | [],_=>-1
 | x::l,i=>if p x=true then i else hA p l (i+1)
theorem Ae(p:aj->Bool):∀ (l:List aj) (i:Int),0<=i->(decide (hA p l i>=0))=l.any p
 | [],i,_=>by rfl
 | x::l,i,h=>by
  simp only[hA,List.any_cons];by_cases hx:p x=true
  ·grind
  ·have:=Ae p l (i+1) (by omega);grind
theorem Af(p:aj->Bool):∀ (l:List aj) (i:Int),eE (λx (i:Int)=>if p x=true then (.done (.done i):aa Int (aa Unit Int)) else .next (i+1)) (λ_=>.next ()) l i=if l.any p=true then .done (hA p l i) else .next ()
 | [],i=>by rfl
 | x::l,i=>by
  simp only[eE,List.any_cons,hA];by_cases hx:p x=true
  ·grind
  ·have:=Af p l (i+1);grind
theorem DI{p:aj->Bool}:∀ (l:List aj) (i:Int),¬l.any p=true->hA p l i=-1
 | [],_,_=>rfl
 | x::l,i,az=>by
  simp only[List.any_cons,Bool.or_eq_true,not_or]at az;simp only[hA,az.1,Bool.false_eq_true,if_false];exact DI l _ az.2
theorem NU(d:aj)(l:List aj)(f:aj->M Bool)(h:l.length<2 ^ 63)(ar:∀ y∈l,∃ b,f y=M.pure b):xS d (l,f)=M.pure (hA (λy=>(f y).val false) l 0):=by
 unfold xS;rw[M.fZ l (λi (b:Int)=>(l,f,(l.length:Int),b,())) (λy (i:Int)=>if (f y).val false=true then (.done (.done i):aa Int (aa Unit Int)) else .next (i+1)) (λ_=>.next ()) (λi b=>b=(i:Int)) 0 ?_ ?_ ?_ ?_]
 ·rw[Af (λy=>(f y).val false)];by_cases aV:(l.any λy=>(f y).val false)=true
  ·simp[aV]
  ·have:hA (λy=>(f y).val false) l 0=-1:=by
    have:∀ (l:List aj) (i:Int),¬(l.any λy=>(f y).val false)=true->hA (λy=>(f y).val false) l i=-1:=by
     intro l;induction l with
     | nil=>intro i _;rfl
     | cons x l aH=>
      intro i az;simp only[List.any_cons,Bool.or_eq_true,not_or]at az;simp only[hA,az.1,Bool.false_eq_true,if_false];grind
    grind
   simp[aV,this]
 ·rfl
 ·rfl
 ·intro i E b ab;subst ab;have hw:=bn (n:=(i:Int)+1) (by omega) (by omega);refine⟨?_,λaZ cS=>?_⟩
  ·obtain⟨b,ab⟩:=ar _ (List.getElem_mem E);simp only[bG,cC E,if_true,cV E,ct E,M.be,ab,M.fi,M.aE,b2,hw];split<;>rfl
  grind
 simp
end
abbrev kK(e:af):aJ:=⟨.aw (.slice e) (.fn e .bool),tI,λx=>x.1.length<2 ^ 63/\∀ y∈x.1,∃ b,x.2 y=M.pure b,λx=>hA (λy=>(x.2 y).val false) x.1 0⟩
theorem su(e:af)(x):M.le (xS e.cO x) ((kK e).sh x):=M.bg λh=>NU e.cO x.1 x.2 h.1 h.2
abbrev iS(e:af):aJ:=⟨.aw (.slice e) (.fn e .bool),cN,λx=>x.1.length<2 ^ 63/\∀ y∈x.1,∃ b,x.2 y=M.pure b,λx=>x.1.any λy=>(x.2 y).val false⟩
theorem sv(e:af)(x):M.le (DH (kK e).sh x) ((iS e).sh x):=M.bg λh=>by
 unfold DH;simp only[aJ.sh,kK,M.c_];rw[M.bk (by exact h)];exact congrArg M.pure (Ae (λy=>(x.2 y).val false) x.1 0 (by omega))
abbrev k9(s:aU):Int:=s.1
abbrev ph(s:aU):Int:=s.2.1
abbrev xT(s:aU):Int:=s.2.2.1
abbrev dQ(s:aU):Int:=s.2.2.2.1
abbrev tZ(s:aU):Int:=s.2.2.2.2.1
abbrev iB(s:aU):Int:=s.2.2.2.2.2
def iF(c:aQ):Prop:=c.1.length<2 ^ 63/\c.2.1.length<2 ^ 63/\c.2.2.1.length<2 ^ 63/\c.2.2.2.1.length<2 ^ 63
def bM(n lo E:Int):Bool:=decide (lo<=n)&&decide (n<=E)
theorem oA{n lo E:Int}:bM n lo E=true<->lo<=n/\n<=E:=by simp[bM]
def pj(t:pf):Bool:=bM t.1 0 9999&&bM t.2.1 1 9999&&bM t.2.2.2.2.1 1 9999&&bM t.2.2.1 0 100000&&bM t.2.2.2.1 0 100000&&bM t.2.2.2.2.2.1 0 100000&&bM t.2.2.2.2.2.2 0 100000
def k_(n:Nat)(s:aU):Bool:=bM (k9 s) 0 99&&bM (ph s) 0 ((n:Int) - 1)&&bM (xT s) 0 9999&&bM (tZ s) 0 9&&bM (iB s) 0 99&&(decide (dQ s=1)||decide (dQ s=2)&&decide (iB s=0))
abbrev bX:aJ:=⟨.aw tI (.aw tI tI),cN,λ_=>True,λx=>bM x.1 x.2.1 x.2.2⟩
theorem akB(x):M.le (V8 bX.sh x) (bX.sh x):=M.bg λ_=>by
 unfold V8;simp[aJ.sh,bX]
theorem akC(x):M.le (aj6 x) (bX.sh x):=M.bg λ_=>rfl
abbrev xU:aJ:=⟨tI,cN,λ_=>True,λx=>bM x 0 9999⟩
theorem akD(x):M.le (VS bX.sh x) (xU.sh x):=M.bg λ_=>by
 unfold VS;simp[aJ.sh,bX]
abbrev vx:aJ:=⟨tI,cN,λ_=>True,λx=>bM x 0 99⟩
theorem akE(x):M.le (V2 bX.sh x) (vx.sh x):=M.bg λ_=>by
 unfold V2;simp[aJ.sh,bX]
abbrev vy:aJ:=⟨NT,cN,λ_=>True,λx=>pj x⟩
theorem akF(x):M.le (Wg bX.sh x) (vy.sh x):=M.bg λ_=>by
 unfold Wg;show _=M.pure (pj x);unfold pj;simp only[aJ.sh,bX,M.nn,M.aE,M.j6];simp
theorem akG(x):M.le (Wc bX.sh x) (vy.sh x):=M.bg λ_=>by
 unfold Wc;rw[M.dh [x.2.2.1,x.2.2.2.1,x.2.2.2.2.2.1,x.2.2.2.2.2.2] (λi (_:Unit)=>(4,(i:Int),x,[x.2.2.1,x.2.2.2.1,x.2.2.2.2.2.1,x.2.2.2.2.2.2],())) (λy b=>if (!bM y 0 100000)=true then .done (.done false) else .next b) (λ_=>.next (x,())) () ?_ ?_ ?_]
 ·rw[j7 (q:=λy=>bM y 0 100000) _ _ (λ_=>rfl)];show _=M.pure (pj x);unfold pj;simp only[List.all_cons,List.all_nil,Bool.and_true,aJ.sh,bX,M.nn,M.aE,M.j6];cases h1:bM x.1 0 9999<;>cases h2:bM x.2.1 1 9999<;>cases h3:bM x.2.2.2.2.1 1 9999<;>cases bM x.2.2.1 0 100000<;>cases bM x.2.2.2.1 0 100000<;>cases bM x.2.2.2.2.2.1 0 100000<;>cases bM x.2.2.2.2.2.2 0 100000<;>simp[h1,h2,h3]
 ·rfl
 ·intro i E b;have dp:i<4:=by omega
  have hw:=bn (n:=(i:Int)+1) (by omega) (by omega);have h1:decide ((i:Int)<4)=true:=by grind
  simp only[h1,if_true,bG,cV E,ct E,M.be,aJ.sh,bX,M.nn,M.aE,b2,hw];exact lJ (mk:=λ(_:Unit)=>((4:Int),((i+1:Nat):Int),x,[x.2.2.1,x.2.2.2.1,x.2.2.2.2.2.1,x.2.2.2.2.2.2],()))
 simp
abbrev fcSlip:aJ:=⟨.aw ji gV,cN,λx=>x.1.1.length<2 ^ 63,λx=>k_ x.1.1.length x.2⟩
theorem akH(x):M.le (Wh bX.sh x) (fcSlip.sh x):=M.bg λh=>by
 have hw:=bn (n:=(x.1.1.length:Int) - 1) (by omega) (by omega);unfold Wh;show _=M.pure (k_ x.1.1.length x.2);unfold k_;simp only[aJ.sh,bX,M.nn,M.aE,M.j6,bG,hw];grind
theorem akI(x):M.le (We bX.sh vx.sh x) (fcSlip.sh x):=M.bg λh=>by
 have hw:=bn (n:=(x.1.1.length:Int) - 1) (by omega) (by omega);unfold We;show _=M.pure (k_ x.1.1.length x.2);unfold k_;simp only[aJ.sh,bX,vx,M.nn,M.aE,M.j6,bG,hw];grind
abbrev DJ:aJ:=⟨.aw gV (.bq ji),cN,λx=>∃ c:aQ,x.2=some c/\c.1.length<2 ^ 63,λx=>!k_ (x.2.getD ([],[],[],[],0,0,0,0,0,0,0)).1.length x.1⟩
theorem akJ(x):M.le (Wd fcSlip.sh x) (DJ.sh x):=M.bg λh=>by
 obtain⟨s,o⟩:=x;obtain⟨c,hc,h⟩:=h;change o=some c at hc;subst hc;unfold Wd;simp only[Option.getD_some,aJ.sh,fcSlip,M.c_];simp_all
abbrev Ag:aJ:=⟨tI,cN,λ_=>True,λx=>!bM x 0 99⟩
theorem akK(x):M.le (Wf vx.sh x) (Ag.sh x):=M.bg λ_=>by
 unfold Wf;simp[aJ.sh,vx]
theorem WA(a b:aU):(decide (a.1=b.1)&&(decide (a.2.1=b.2.1)&&(decide (a.2.2.1=b.2.2.1)&&(decide (a.2.2.2.1=b.2.2.2.1)&&(decide (a.2.2.2.2.1=b.2.2.2.2.1)&&decide (a.2.2.2.2.2=b.2.2.2.2.2))))))=decide (a=b):=by
 grind
def t_(a b:aU):Bool:=decide (k9 a=k9 b)&&!decide (a=b)
abbrev Ho:aJ:=⟨.aw gV gV,cN,λ_=>True,λx=>t_ x.1 x.2⟩
theorem akL(x):M.le (V7 x) (Ho.sh x):=M.bg λ_=>by
 have h:=WA x.1 x.2;unfold V7;show _=M.pure (t_ x.1 x.2);unfold t_;grind
abbrev mj:aJ:=⟨.aw fm tI,cN,λx=>x.1.length<2 ^ 63,λx=>x.1.contains x.2⟩
theorem akM(x):M.le (akq x) ((kK gV).sh x):=su gV x
theorem akN(x):M.le (akk (kK gV).sh x) ((iS gV).sh x):=sv gV x
abbrev fcClone:aJ:=⟨fm,fm,λx=>x.length<=3000000,λx=>x⟩
theorem gp{n:Nat}(h:n<65536):bT n:=by unfold bT;omega
theorem akO(x):M.le (Wj x) (fcClone.sh x):=M.sj λh=>by
 unfold Wj;rw[M.fJ];refine⟨⟨false,by simp⟩,λb ab=>?_⟩;change b=true->x=[]at ab;cases b with
 | true=>rw[ab rfl];exact M.dF.2 rfl
 | false=>
  simp only[Bool.false_eq_true,if_false];exact M.kv.2 ⟨by change List.length x<=3000000 at h;simp only[hX,bT];omega,M.dF.2 (by simp)⟩
abbrev akP(c:aQ):Prop:=c.1.length<=20/\c.2.1.length<=40/\c.2.2.1.length<=60/\c.2.2.2.1.length<=40
abbrev Hp:aJ:=⟨tI,cN,λ_=>True,λ_=>false⟩
theorem akQ(x):M.le (Wn x) (Hp.sh x):=M.bg λ_=>by simp[Wn]
abbrev fcCmp:aJ:=⟨.aw tI tI,tI,λ_=>True,λx=>if x.1<x.2 then -1 else if x.1 > x.2 then 1 else 0⟩
theorem akR(x):M.le (Wl Hp.sh x) (fcCmp.sh x):=M.bg λ_=>by
 unfold Wl;simp only[aJ.sh,Hp,M.nn,M.aE,Bool.false_eq_true,if_false,decide_eq_true_eq];grind
abbrev lN:aJ:=⟨.aw Hn Hn,tI,λ_=>True,λx=>if x.1.2<x.2.2 then -1 else if x.1.2 > x.2.2 then 1 else 0⟩
theorem akS(x):M.le (Wk fcCmp.sh x) (lN.sh x):=M.bg λ_=>by
 unfold Wk;simp only[aJ.sh,fcCmp,M.nn,M.aE]
abbrev NV:aJ:=⟨.int .u64,tI,λx=>0<=x/\x<=12,λx=>(DF x).val 0⟩
theorem akT(x):M.le (DF x) (NV.sh x):=M.bg λh=>by
 have key:∃ v,DF x=M.pure v:=by
  change Int at x;change (0:Int)<=x/\x<=12 at h;unfold DF;have e1:¬(x>=4294967296):=by omega
  have e2:¬(x>=65536):=by omega
  have e3:¬(x>=256):=by omega
  have e4:IntKind.wrap .u8 x=x:=by
   show (if (false&&decide (x % 2 ^ 8>=(2 ^ (8 - 1):Int)))=true then x % 2 ^ 8 - 2 ^ 8 else x % 2 ^ 8)=x;grind
  have kS:0<=x/\x<Int.ofNat 256:=⟨h.1,by grind⟩
  simp only[decide_eq_true_eq,e1,e2,e3,if_false,M.aE,M.bK,e4,M.bk kS];grind
 obtain⟨v,hv⟩:=key;simp_all
abbrev NW:aJ:=⟨.int .u64,tI,λx=>0<=x/\x<=12,λx=>(DF x).val 0⟩
theorem akU(f)(x):M.le (Wi f NV.sh x) (NW.sh x):=M.bg λh=>by
 unfold Wi;simp only[aJ.sh,M.c_];simp_all
end Go.Fer.H
namespace Go.Fer.H
open M (aa)
section
variable {aj:Type} (d:aj) (lt:aj->aj->Bool)
def vz(l:List aj):Nat->List aj
 | 0=>l
 | k+1=>if lt (l.getD (k+1) d) (l.getD k d)=true then vz ((l.set (k+1) (l.getD k d)).set k (l.getD (k+1) d)) k else l
def pk(e:aj):List aj->List aj
 | []=>[e]
 | a::r=>if lt e a=true then a::pk e r else e::a::r
def t'(l:List aj):List aj:=l.foldl (λr e=>pk lt e r) []
def e_(l:List aj):List aj:=(t' lt l).reverse
theorem WB:∀ (r:List aj) (e:aj) (R:List aj),vz d lt (r.reverse++e::R) r.length=(pk lt e r).reverse++R
 | [],e,R=>rfl
 | a::r,e,R=>by
  have e1:((a::r).reverse++e::R).getD (r.length+1) d=e:=by
   simp
  have e2:((a::r).reverse++e::R).getD r.length d=a:=by
   simp
  show vz d lt ((a::r).reverse++e::R) (r.length+1)=_;unfold vz;rw[e1,e2];unfold pk;split
  ·have e3:(((a::r).reverse++e::R).set (r.length+1) a).set r.length e=r.reverse++e::(a::R):=by
    simp
   rw[e3,WB r e (a::R)];simp
  ·simp
theorem NX(e:aj):∀ r:List aj,(pk lt e r).Perm (e::r)
 | []=>.refl _
 | a::r=>by
  unfold pk;split
  ·exact ((NX e r).cons a).trans (List.Perm.swap e a r)
  rfl
theorem WC:∀ (l r:List aj),(l.foldl (λr e=>pk lt e r) r).Perm (l++r)
 | [],r=>.refl _
 | x::l,r=>by
  simp only[List.foldl_cons];refine (WC l _).trans ?_;refine ((NX lt x r).append_left l).trans ?_;simp
theorem WD(l:List aj):(t' lt l).Perm l:=by
 have:=WC lt l [];rwa [List.append_nil]at this
theorem DK(l:List aj):(e_ lt l).Perm l:=(List.reverse_perm _).trans (WD lt l)
theorem WE(l:List aj):(t' lt l).length=l.length:=(WD lt l).length_eq
theorem Hq(l:List aj):(e_ lt l).length=l.length:=(DK lt l).length_eq
theorem WG{l:List aj}{x:aj}:x∈e_ lt l<->x∈l:=(DK lt l).mem_iff
theorem akV(l:List aj)(e:aj):t' lt (l++[e])=pk lt e (t' lt l):=by simp[t']
def qg(l:List aj)(n:Nat):List aj:=(t' lt (l.take n)).reverse++l.drop n
theorem akW(l:List aj):qg lt l 1=l:=by
 cases l with
 | nil=>rfl
 | cons x l=>rfl
theorem akX(l:List aj):qg lt l l.length=e_ lt l:=by simp[qg,e_]
theorem akY(l:List aj)(n:Nat)(h:n<=l.length):(qg lt l n).length=l.length:=by
 simp[qg,WE,Nat.min_eq_left h];omega
theorem akZ{l:List aj}{n:Nat}(h:n<l.length):vz d lt (qg lt l n) n=qg lt l (n+1):=by
 have e1:(t' lt (l.take n)).length=n:=by rw[WE];grind
 have:=WB d lt (t' lt (l.take n)) l[n] (l.drop (n+1));rw[e1]at this;unfold qg;rw[List.drop_eq_getElem_cons h,this,List.take_add_one,List.getElem?_eq_getElem h,Option.toList_some,akV]
theorem NY(b4:∀ a b,lt a b=false->lt b a=true\/lt b a=false)(tr:∀ a b c:aj,lt a b=false->lt b c=false->lt a c=false)(WH:∀ a b,lt a b=true->lt b a=false)(e:aj):∀ r:List aj,r.Pairwise (λa b=>lt a b=false)->(pk lt e r).Pairwise (λa b=>lt a b=false)
 | [],_=>by simp[pk]
 | a::r,h=>by
  rw[List.pairwise_cons]at h;unfold pk;split
  ·rename_i he;refine List.pairwise_cons.2 ⟨λx hx=>?_,NY b4 tr WH e r h.2⟩;rcases List.mem_cons.1 ((NX lt e r).mem_iff.1 hx) with rfl | hx
   ·exact WH _ _ he
   ·exact h.1 x hx
  ·rename_i he;have he:lt e a=false:=by grind
   refine List.pairwise_cons.2 ⟨λx hx=>?_,List.pairwise_cons.2 h⟩;grind
end
def gX(a b:Int):Bool:=decide (a<b)
def hL(a b:bj):Bool:=decide (a.2<b.2)
theorem WI:∀ (l r:z1'),r.Pairwise (λa b=>gX a b=false)->(l.foldl (λr e=>pk gX e r) r).Pairwise (λa b=>gX a b=false)
 | [],r,h=>h
 | x::l,r,h=>WI l _ (NY gX (λa b _=>by simp) (λa b c h1 h2=>by simp[gX]at *;omega) (λa b h=>by simp[gX]at *;omega) x r h)
theorem NZ(l:z1'):(e_ gX l).Pairwise (·<=·):=by
 have:=WI l [] .nil;unfold e_;rw[List.pairwise_reverse];exact this.imp λh=>by simp[gX]at h;exact h
theorem WJ:∀ (l r:List bj),r.Pairwise (λa b=>hL a b=false)->(l.foldl (λr e=>pk hL e r) r).Pairwise (λa b=>hL a b=false)
 | [],r,h=>h
 | x::l,r,h=>WJ l _ (NY hL (λa b _=>by simp) (λa b c h1 h2=>by simp[hL]at *;omega) (λa b h=>by simp[hL]at *;omega) x r h)
theorem ak0(l:List bj):(e_ hL l).Pairwise λa b=>a.2<=b.2:=by
 have:=WJ l [] .nil;unfold e_;rw[List.pairwise_reverse];exact this.imp λh=>by simp[hL]at h;exact h
theorem Ah{l m:z1'}(h:m.Pairwise (·<=·))(hp:l.Perm m):e_ gX l=m:=
 List.Perm.eq_of_pairwise (λa b _ _ h1 h2=>by omega) (NZ l) h ((DK gX l).trans hp)
theorem WK{l m:z1'}(hp:l.Perm m):e_ gX l=e_ gX m:=Ah (NZ m) (hp.trans (DK gX m).symm)
theorem ak1{aj:Type}{d:aj}{lt:aj->aj->Bool}{A aF:Type}{body:A->M (aa A aF)}{s0:A}(mk:Nat->List aj->A)(fin:List aj->aF)(gS:Nat)(eV:List aj)(mM:s0=mk gS eV)(mF:gS<eV.length)
  (hs:∀ k l,l.length=eV.length->k<eV.length->body (mk k l)=M.pure (if 0<k/\lt (l.getD k d) (l.getD (k - 1) d)=true then .next (mk (k - 1) ((l.set k (l.getD (k - 1) d)).set (k - 1) (l.getD k d))) else .done (fin l))) :
  M.loop body s0=M.pure (fin (vz d lt eV gS)):=by
 subst mM;have key:∀ k l,l.length=eV.length->k<eV.length->M.loop body (mk k l)=M.pure (fin (vz d lt l k)):=by
  intro k;induction k with
  | zero=>
   intro l ai ao;exact M.rF (by rw[hs 0 l ai ao,if_neg (by simp)];rfl)
  | succ k aH=>
   intro l ai ao;unfold vz;by_cases h:lt (l.getD (k+1) d) (l.getD k d)=true
   ·rw[if_pos h,M.yJ (s':=mk k ((l.set (k+1) (l.getD k d)).set k (l.getD (k+1) d)))]
    ·exact aH _ (by simpa using ai) (by omega)
    ·rw[hs (k+1) l ai ao,if_pos ⟨by omega,h⟩];rfl
   ·rw[if_neg h];exact M.rF (by grind)
 grind
theorem N0{aj:Type}{l:List aj}{d:aj}{k:Nat}:l.getD ((k:Int) - 1).toNat d=l.getD (k - 1) d:=by
 simp
theorem WL{aj:Type}{l:List aj}{d:aj}{k:Nat}:l.getD ((k:Int)).toNat d=l.getD k d:=by rfl
theorem ak2{A aF:Type}{c:Bool}{p:Prop}[Decidable p](h:c=decide p){x y:M (aa A aF)}{a b:aa A aF}(h1:p->x=M.pure a)(h2:¬p->y=M.pure b):(if c=true then x else y)=M.pure (if p then a else b):=by
 grind
def Hr(x:Int×Int×(bj×aU×Int->M Int)×List bj×Unit):M (List bj×Unit):=M.dv (x.1=0/\x.2.1=(x.2.2.2.1.length:Int)/\x.2.2.2.1.length<=12/\x.2.2.1=lN.sh) (e_ hL x.2.2.2.1,())
theorem ak3(x):M.le (Wr x) (Hr x):=M.bg λh=>by
 obtain⟨a,b,f,l,u⟩:=x;obtain⟨h1,h2,h3,aR⟩:=h;change a=0 at h1;change b=(l.length:Int) at h2;change l.length<=12 at h3;change f=lN.sh at aR;subst h1;subst h2;subst aR;unfold Wr;rw[M.dh (List.range (l.length - 1)) (λi (_:Unit)=>(0,(l.length:Int),lN.sh,((i+1:Nat):Int),qg hL l (i+1),())) (λ_ _=>.next ()) (λ_=>(e_ hL l,())) () ?_ ?_ ?_]
 ·rw[dP]
 ·show (0,(l.length:Int),lN.sh,IntKind.wrap .i64 (Add.add 0 1),l,())=(0,(l.length:Int),lN.sh,((0+1:Nat):Int),qg hL l (0+1),())
  rw[akW];rfl
 ·intro i E _;have E:i+1<l.length:=by grind
  have ai:=akY hL l (i+1) (by omega);have hw:=bn (n:=((i+1:Nat):Int)+1) (by omega) (by omega);have au:decide (((i+1:Nat):Int)<(l.length:Int))=true:=by grind
  simp only[au,if_true];rw[ak1 (d:=((0,0,0,0,0,0),0)) (lt:=hL) (λk m=>(0,(l.length:Int),lN.sh,((i+1:Nat):Int),(k:Int),m,())) (λm=>.next (0,(l.length:Int),lN.sh,((i+1:Nat):Int),m,())) (i+1) (qg hL l (i+1)) rfl (by omega) ?_]
  ·simp only[M.aE,M.bK,b2,hw,akZ ((0,0,0,0,0,0),0) hL E];rfl
  ·intro k m an ao;have gl:0<k->IntKind.wrap .i64 ((k:Int) - 1)=(k:Int) - 1:=λ_=>bn (by omega) (by omega);by_cases mF:0<k
   ·have hp:decide ((k:Int) > 0)=true:=by grind
    have bR:(0:Int)<=(k:Int)/\(k:Int)<Int.ofNat m.length:=⟨by omega,by grind⟩
    have cp:(0:Int)<=(k:Int) - 1/\(k:Int) - 1<Int.ofNat m.length:=⟨by omega,by omega⟩
    have dX:(0:Int)<=(k:Int) - 1/\(k:Int) - 1<Int.ofNat (m.set k (m.getD (k - 1) ((0,0,0,0,0,0),0))).length:=⟨by omega,by grind⟩
    have Hs:((k:Int) - 1)=((k - 1:Nat):Int):=by omega
    simp only[hp,gl mF,bR,cp,forall_const,and_self,true_and,M.be,aJ.sh,lN,M.nn,M.j6,M.aE,if_true,Bool.true_and,N0,WL,Int.toNat_natCast,dX];rw[show ((k:Int) - 1).toNat=k - 1 from by omega];refine ak2 (p:=0<k/\hL (m.getD k ((0,0,0,0,0,0),0)) (m.getD (k - 1) ((0,0,0,0,0,0),0))=true) ?_ (λ_=>?_) (λ_=>rfl)
    ·rw[Bool.eq_iff_iff];simp only[hL,mF,true_and,decide_eq_true_eq];grind
    rw[Hs]
   ·have WM:k=0:=by omega
    subst WM;simp[b1]
 ·intro _;have e:qg hL l (l.length - 1+1)=e_ hL l:=by
   cases l with
   | nil=>rfl
   | cons x r=>exact akX hL (x::r)
  have au:decide (((l.length - 1+1:Nat):Int)<(l.length:Int))=false:=by grind
  simp only[List.length_range,au,Bool.false_eq_true,if_false,e,M.aE]
def Ht(x:Int×Int×Int×(bj×aU×Int->M Int)×List bj×Unit):M (List bj×Unit):=M.dv (x.1=0/\x.2.1=(x.2.2.2.2.1.length:Int)/\x.2.2.2.2.1.length<=12/\x.2.2.2.1=lN.sh) (e_ hL x.2.2.2.2.1,())
theorem ak4(x):M.le (Wx Hr x) (Ht x):=M.bg λh=>by
 obtain⟨a,b,c,f,l,u⟩:=x;obtain⟨h1,h2,h3,aR⟩:=h;change a=0 at h1;change b=(l.length:Int) at h2;change l.length<=12 at h3;change f=lN.sh at aR;subst h1;subst h2;subst aR;unfold Wx;refine M.rF ?_;have hw:=bn (n:=(l.length:Int) - 0) (by omega) (by omega);have au:decide ((l.length:Int) - 0<=12)=true:=by grind
 simp only[hw,au,if_true];unfold Hr;simp_all
theorem ak5{n:Int}(h:0<=n)(h2:n<=12):IntKind.wrap .u64 n=n:=by
 show (if (false&&decide (n % 2 ^ 64>=(2 ^ (64 - 1):Int)))=true then n % 2 ^ 64 - 2 ^ 64 else n % 2 ^ 64)=n;grind
def xV(x:z1'×Unit):M (z1'×Unit):=M.dv (x.1.length<4611686018427387904) (e_ gX x.1,())
def Ai(x:(bj×aU×Int->M Int)×List bj×Unit):M (List bj×Unit):=M.dv (x.2.1.length<=12/\x.1=lN.sh) (e_ hL x.2.1,())
theorem ak6(x):M.le (Wz NW.sh Ht x) (Ai x):=M.bg λh=>by
 obtain⟨f,l,u⟩:=x;obtain⟨h,aR⟩:=h;change l.length<=12 at h;change f=lN.sh at aR;subst aR;unfold Wz;have hw:=ak5 (n:=(l.length:Int)) (by omega) (by omega);show M.bind (M.dv (0<=IntKind.wrap .u64 (l.length:Int)/\IntKind.wrap .u64 (l.length:Int)<=12) _) _=_;rw[M.c_,M.bk (by omega)];unfold Ht;simp_all
def Aj(x:(z1'->Prop)×Unit):M (z1'×Unit):=⟨(∃ L,x.1 L)/\∀ L,x.1 L->L.length<60000,λy=>x.1 y.1⟩
theorem WN:∀ (L acc:z1'),L.length+acc.length<60000->jA (λ(A:z1'×Unit) (y:Int)=>M.bind (M.ae (bT (Add.add (List.length A.1) (Add.add 0 1))) (M.pure (cQ.normal,A.1++[y],()))) λp=>M.pure (p.1,p.2.1,())) L (acc,())=M.pure (.normal,acc++L,())
 | [],acc,_=>by simp[jA]
 | x::L,acc,h=>by
  simp only[List.length_cons]at h;unfold jA;rw[M.bk (gp (by grind))];simp only[M.aE];rw[WN L (acc++[x]) (by grind)];simp
theorem ak7(x):M.le (Wo x) (Aj x):=λh=>by
 obtain⟨S,u⟩:=x;obtain⟨h1,h2⟩:=h;show M.b_ _ _;unfold Wo;rw[M.fJ];refine⟨h1,λL iy=>?_⟩;have iy:S L:=iy;show M.b_ (M.bind (jA _ L ([],())) _) _;rw[WN L [] (by grind)];simp only[M.aE,r4,List.nil_append];exact M.dF.2 iy
theorem ak8(x):M.le (Wp Aj x) (Aj x):=λh=>by
 obtain⟨S,u⟩:=x;show M.b_ _ _;unfold Wp;rw[M.fJ];exact⟨h,λy aM=>M.dF.2 aM⟩
open Classical in
def Ak(S:z1'->Prop):z1':=if h:∃ L,S L then e_ gX h.choose else []
abbrev sw:aJ:=⟨.b8 tI,fm,λS=>(∃ L,S L)/\(∀ L L',S L->S L'->L.Perm L')/\∀ L,S L->L.length<60000,λS=>Ak S⟩
theorem ak9(x):M.le (VU xV Aj x) (sw.sh x):=M.sj λh=>by
 obtain⟨h1,h2,h3⟩:=h;unfold VU;rw[M.fJ];refine⟨⟨h1,λL iy=>by grind⟩,λy aM=>?_⟩;have aM:x y.1:=aM;unfold xV;show M.b_ (M.bind (M.dv _ _) _) _;rw[M.c_,M.kv];refine⟨Nat.lt_trans (h3 _ aM) (by decide),M.dF.2 ?_⟩;show e_ gX y.1=Ak x;unfold Ak;rw[dif_pos h1];exact WK (h2 _ _ aM h1.choose_spec)
theorem ak_{S:z1'->Prop}{L:z1'}(h:S L)(h2:∀ L L',S L->S L'->L.Perm L'):Ak S=e_ gX L:=by
 have h1:∃ L,S L:=⟨L,h⟩
 unfold Ak;rw[dif_pos h1];exact WK (h2 _ _ h1.choose_spec h)
def jG{aj:Type}(x:Option (List (Int×aj)))(L:z1'):Prop:=∃ m,x=some m/\(m.map (·.1)).Perm L
abbrev Hu:aJ:=⟨.map tI tI,.b8 tI,λ_=>True,λx=>jG (some x)⟩
theorem ak'(x):M.le (aj8 jG x) (Hu.sh x):=M.bg λ_=>rfl
abbrev xW:aJ:=⟨.map tI gV,.b8 tI,λ_=>True,λx=>jG (some x)⟩
theorem ala(x):M.le (akn jG x) (xW.sh x):=M.bg λ_=>rfl
theorem ua{aj:Type}{m:List (Int×aj)}{L:z1'}:jG (some m) L<->(m.map (·.1)).Perm L:=⟨λ⟨da,h,k⟩=>by grind,λh=>⟨m,rfl,h⟩⟩
theorem WO{aj:Type}{m:List (Int×aj)}(h:m.length<60000):sw.pre (jG (some m)):=
 ⟨⟨_,ua.2 (.refl _)⟩,λL L' h1 h2=>(ua.1 h1).symm.trans (ua.1 h2),λL iy=>by rw[<-(ua.1 iy).length_eq];grind⟩
theorem WQ{aj:Type}{m:List (Int×aj)}:Ak (jG (some m))=e_ gX (m.map (·.1)):=
 ak_ (ua.2 (.refl _)) λL L' h1 h2=>(ua.1 h1).symm.trans (ua.1 h2)
end Go.Fer.H
namespace Go.Fer.H
open M (aa)
def sx(s:Int×Int):Bool:=bM s.1 (-30) s.2&&!decide (s.2 > 30)
def iC(l:z4')(i:Nat):Bool:=bM (l.getD i (0,0)).1 0 (l.getD i (0,0)).2&&!decide ((l.getD i (0,0)).2 > 9999)&&!(decide (0<i)&&decide ((l.getD i (0,0)).1<=(l.getD (i - 1) (0,0)).2))
def Al(l:z4'):Bool:=(List.range l.length).all (iC l)
def sz(c:aQ):Bool:=!(decide ((c.1.length:Int) > 3)||decide ((c.2.1.length:Int) > 12)||decide ((c.2.2.1.length:Int) > 12)||decide ((c.2.2.2.1.length:Int) > 4))&&pj c.2.2.2.2
def jH(c:aQ):Bool:=sz c&&c.1.all sx&&c.2.1.all (k_ c.1.length)&&c.2.2.1.all (λn=>bM n 0 99)&&Al c.2.2.2.1
abbrev vA:aJ:=⟨ji,cN,iF,λc=>jH c⟩
theorem Hv{A aF β:Type}{mk:β->A}{b:β}{q:Bool}{r:aF}{m:M (aa A aF)}(h1:q=true->m=M.pure (.next (mk b)))(h2:q=false->m=M.pure (.done r)):m=M.pure (aa.gT mk (if (!q)=true then .done r else .next b)):=by
 cases q
 ·exact h2 rfl
 ·exact h1 rfl
theorem WR{aj:Type}{a t:Bool}{m n:aj}:(if (a||!(if (!a)=true then t else false))=true then m else n)=if (!a&&t)=true then n else m:=by grind
theorem alb(x):M.le (V5 bX.sh vy.sh fcSlip.sh x) (vA.sh x):=M.bg λh=>by
 obtain⟨aO,aP,bA,gi⟩:=h;unfold V5;show _=M.pure (jH x);simp only[aJ.sh,vy,M.nn,M.j6,M.aE,bG,WR];unfold jH;rw[show (!(decide ((x.1.length:Int) > 3)||decide ((x.2.1.length:Int) > 12)||decide ((x.2.2.1.length:Int) > 12)||decide ((x.2.2.2.1.length:Int) > 4))&&pj x.2.2.2.2)=sz x from rfl];cases ab:sz x with
 | false=>rfl
 | true=>
  rw[if_pos rfl];rw[M.dh x.1 (λi (_:Unit)=>((i:Int),x,())) (λy b=>if (!sx y)=true then .done (.done false) else .next b) (λ_=>.next (x,())) () ?_ ?_ ?_]
  ·rw[j7 (q:=sx) _ _ (λ_=>rfl)];cases hc:x.1.all sx with
   | false=>simp
   | true=>
    simp only[if_true,M.aE,M.bK];rw[M.dh x.2.1 (λi (_:Unit)=>((i:Int),x,())) (λy b=>if (!k_ x.1.length y)=true then .done (.done false) else .next b) (λ_=>.next (x,())) () ?_ ?_ ?_]
    ·rw[j7 (q:=k_ x.1.length) _ _ (λ_=>rfl)];cases au:x.2.1.all (k_ x.1.length) with
     | false=>simp
     | true=>
      simp only[if_true,M.aE,M.bK];rw[M.dh x.2.2.1 (λi (_:Unit)=>((i:Int),x,())) (λy b=>if (!bM y 0 99)=true then .done (.done false) else .next b) (λ_=>.next (x,())) () ?_ ?_ ?_]
      ·rw[j7 (q:=λn=>bM n 0 99) _ _ (λ_=>rfl)];cases he:x.2.2.1.all (λn=>bM n 0 99) with
       | false=>simp
       | true=>
        simp only[if_true,M.aE,M.bK];rw[M.dh (List.range x.2.2.2.1.length) (λi (_:Unit)=>((i:Int),x,())) (λy b=>if (!iC x.2.2.2.1 y)=true then .done (.done false) else .next b) (λ_=>.next ()) () ?_ ?_ ?_]
        ·rw[j7 (q:=iC x.2.2.2.1) _ _ (λ_=>rfl)];unfold Al;cases (List.range x.2.2.2.1.length).all (iC x.2.2.2.1)<;>simp
        ·rfl
        ·intro i E b;have E:i<x.2.2.2.1.length:=by grind
         have hw:=bn (n:=(i:Int)+1) (by omega) (by omega);have gl:=bn (n:=(i:Int) - 1) (by omega) (by omega);have iD:x.2.2.2.1.getD i (0,0)=x.2.2.2.1[i]:=by grind
         have ep:(decide ((i:Int) > 0))=decide (0<i):=by simp
         have G:decide (0<i)=true->((0:Int)<=(i:Int) - 1/\(i:Int) - 1<(x.2.2.2.1.length:Int)):=λh=>by grind
         refine Hv (mk:=λ(_:Unit)=>(((i+1:Nat):Int),x,())) (b:=b) ?_ ?_<;>intro bf<;>
         ·simp only[List.getElem_range,iC,iD]at bf;simp only[bG,cC E,if_true,cV E,ct E,M.be,aJ.sh,bX,M.nn,M.iG,M.fi,b2,hw,gl,ep,N0,List.getElem_range];revert bf;generalize bM x.2.2.2.1[i].1 0 x.2.2.2.1[i].2=dt;generalize decide (x.2.2.2.1[i].2 > 9999)=eG;generalize decide (x.2.2.2.1[i].1<=(x.2.2.2.1.getD (i - 1) (0,0)).2)=mr;revert G;generalize decide (0<i)=rE;intro G;cases rE
          ·cases dt<;>cases eG<;>cases mr<;>simp
          ·have G:=G rfl;cases dt<;>cases eG<;>cases mr<;>simp[G,(by omega:(1:Int)<=(i:Int))]
        simp
      ·rfl
      ·intro i E b;have hw:=bn (n:=(i:Int)+1) (by omega) (by omega);simp only[bG,cC E,if_true,cV E,ct E,M.be,aJ.sh,bX,M.nn,M.aE,b2,hw];exact lJ (mk:=λ(_:Unit)=>(((i+1:Nat):Int),x,()))
      simp
    ·rfl
    ·intro i E b;have hw:=bn (n:=(i:Int)+1) (by omega) (by omega);simp only[bG,cC E,if_true,cV E,ct E,M.be,aJ.sh,fcSlip,M.mf,M.fY,M.aE,b2,hw];rw[M.bk aO];exact lJ (mk:=λ(_:Unit)=>(((i+1:Nat):Int),x,()))
    simp
  ·rfl
  ·intro i E b;have hw:=bn (n:=(i:Int)+1) (by omega) (by omega);refine Hv (mk:=λ(_:Unit)=>(((i+1:Nat):Int),x,())) (b:=b) ?_ ?_<;>intro bf<;>
   ·simp only[sx]at bf;simp only[bG,cC E,if_true,cV E,ct E,M.be,aJ.sh,bX,M.nn,M.iG,M.fi,b2,hw];revert bf;generalize bM x.1[i].1 (-30) x.1[i].2=dt;generalize decide (x.1[i].2 > 30)=eG;simp_all
  simp
theorem WS{aj:Type}{p:aj->Bool}(l:List aj):(l.any λy=>!p y)=!l.all p:=by grind
theorem alc(x):M.le (V4 bX.sh (iS gV).sh vy.sh (iS tI).sh DJ.sh Ag.sh x) (vA.sh x):=M.bg λh=>by
 obtain⟨aO,aP,bA,gi⟩:=h;unfold V4;show _=M.pure (jH x);simp only[show vy.sh x.2.2.2.2=M.pure (pj x.2.2.2.2) from rfl,M.j6,M.aE,bG,WR];unfold jH;rw[show (!(decide ((x.1.length:Int) > 3)||decide ((x.2.1.length:Int) > 12)||decide ((x.2.2.1.length:Int) > 12)||decide ((x.2.2.2.1.length:Int) > 4))&&pj x.2.2.2.2)=sz x from rfl];cases ab:sz x with
 | false=>rfl
 | true=>
  rw[if_pos rfl];rw[M.dh x.1 (λi (_:Unit)=>(x.1,(x.1.length:Int),(i:Int),x,())) (λy b=>if (!sx y)=true then .done (.done false) else .next b) (λ_=>.next (x,())) () ?_ ?_ ?_]
  ·rw[j7 (q:=sx) _ _ (λ_=>rfl)];cases hc:x.1.all sx with
   | false=>simp
   | true=>
    simp only[if_true,M.aE,M.bK];rw[M.dh (List.range x.2.2.2.1.length) (λi (_:Unit)=>(x.2.2.2.1,(x.2.2.2.1.length:Int),(i:Int),x,())) (λy b=>if (!iC x.2.2.2.1 y)=true then .done (.done false) else .next b) (λ_=>.next (x,())) () ?_ ?_ ?_]
    ·rw[j7 (q:=iC x.2.2.2.1) _ _ (λ_=>rfl)];unfold Al;cases au:(List.range x.2.2.2.1.length).all (iC x.2.2.2.1) with
     | false=>simp
     | true=>
      simp only[if_true,M.aE,M.bK];have e1:(iS gV).sh (x.2.1,λy=>DJ.sh (y,some x))=M.pure (!x.2.1.all (k_ x.1.length)):=by
       have ar:∀ y,DJ.sh (y,some x)=M.pure (!k_ x.1.length y):=λy=>M.bE ⟨x,rfl,aO⟩ _;refine (M.bE ⟨aP,λy _=>⟨_,ar y⟩⟩ _).trans ?_;refine congrArg M.pure ?_;rw[<-WS];simp_all
      have e2:(iS tI).sh (x.2.2.1,Ag.sh)=M.pure (!x.2.2.1.all (λn=>bM n 0 99)):=by
       refine (M.bE ⟨bA,λy _=>⟨_,rfl⟩⟩ _).trans ?_;refine congrArg M.pure ?_;rw[<-WS];show (x.2.2.1.any λy=>(Ag.sh y).val false)=_;simp only[show ∀ y,Ag.sh y=M.pure (!bM y 0 99) from λ_=>rfl,M.fi]
      rw[e1,e2];simp only[M.aE,M.j6];grind
    ·rfl
    ·intro i E b;have E:i<x.2.2.2.1.length:=by grind
     have hw:=bn (n:=(i:Int)+1) (by omega) (by omega);have gl:=bn (n:=(i:Int) - 1) (by omega) (by omega);have iD:x.2.2.2.1.getD i (0,0)=x.2.2.2.1[i]:=by grind
     have ep:(decide ((i:Int) > 0))=decide (0<i):=by simp
     have G:decide (0<i)=true->((0:Int)<=(i:Int) - 1/\(i:Int) - 1<(x.2.2.2.1.length:Int)):=λh=>by grind
     refine Hv (mk:=λ(_:Unit)=>(x.2.2.2.1,(x.2.2.2.1.length:Int),((i+1:Nat):Int),x,())) (b:=b) ?_ ?_<;>intro bf<;>
     ·simp only[List.getElem_range,iC,iD]at bf;simp only[bG,cC E,if_true,cV E,ct E,M.be,aJ.sh,bX,M.nn,M.iG,M.fi,b2,hw,gl,ep,N0,List.getElem_range];revert bf;generalize bM x.2.2.2.1[i].1 0 x.2.2.2.1[i].2=dt;generalize decide (x.2.2.2.1[i].2 > 9999)=eG;generalize decide (x.2.2.2.1[i].1<=(x.2.2.2.1.getD (i - 1) (0,0)).2)=mr;revert G;generalize decide (0<i)=rE;intro G;cases rE
      ·cases dt<;>cases eG<;>cases mr<;>simp
      ·have G:=G rfl;cases dt<;>cases eG<;>cases mr<;>simp[G,(by omega:(1:Int)<=(i:Int))]
    simp
  ·rfl
  ·intro i E b;have hw:=bn (n:=(i:Int)+1) (by omega) (by omega);refine Hv (mk:=λ(_:Unit)=>(x.1,(x.1.length:Int),((i+1:Nat):Int),x,())) (b:=b) ?_ ?_<;>intro bf<;>
   ·simp only[sx]at bf;simp only[bG,cC E,if_true,cV E,ct E,M.be,aJ.sh,bX,M.nn,M.aE,b2,hw];grind
  simp
abbrev jj:aU:=(0,0,0,0,0,0)
def kL(l:List aU):Bool:=(List.range l.length).any λi=>(List.range i).any λk=>t_ (l.getD k jj) (l.getD i jj)
def cu(c:aQ):Int:=if jH c=true then (if kL c.2.1=true then 91 else 0) else 90
abbrev gY:aJ:=⟨ji,tI,iF,λc=>cu c⟩
theorem sA{aj:Type}{l:List aj}{i:Nat}{d:aj}(h:i<l.length):l.getD i d=l[i]:=by grind
theorem ald(x):M.le (VN vA.sh Ho.sh x) (gY.sh x):=M.bg λh=>by
 obtain⟨aO,aP,bA,gi⟩:=id h;unfold VN;show _=M.pure (cu x);rw[show vA.sh x=M.pure (jH x) from M.bE h _];unfold cu;cases jH x with
 | false=>simp
 | true=>
  simp only[M.aE,Bool.not_true,Bool.false_eq_true,if_false,if_true];rw[M.dh (List.range x.2.1.length) (λi (_:Unit)=>((i:Int),x,())) (λi b=>if ((List.range i).any λk=>t_ (x.2.1.getD k jj) (x.2.1.getD i jj))=true then .done (.done 91) else .next b) (λ_=>.next ()) () ?_ ?_ ?_]
  ·rw[qd];unfold kL;cases (List.range x.2.1.length).any λi=>(List.range i).any λk=>t_ (x.2.1.getD k jj) (x.2.1.getD i jj)<;>simp
  ·rfl
  ·intro i E b;have E:i<x.2.1.length:=by grind
   have hw:=bn (n:=(i:Int)+1) (by omega) (by omega);have au:decide ((i:Int)<Int.ofNat x.2.1.length)=true:=cC E;simp only[au,if_true,List.getElem_range];rw[M.dh (List.range i) (λk (_:Unit)=>((i:Int),(k:Int),x,())) (λk b=>if t_ (x.2.1.getD k jj) (x.2.1.getD i jj)=true then .done (.done (.done (.done 91))) else .next b) (λ_=>(.next ((i:Int),x,()):aa (Int×aQ×Unit) (aa (Int×aQ×Unit) (aa Unit Int)))) () ?_ ?_ ?_]
   ·rw[qd];cases (List.range i).any λk=>t_ (x.2.1.getD k jj) (x.2.1.getD i jj)<;>simp[hw]
   ·rfl
   ·intro k ao b;have ao:k<i:=by grind
    have ub:k<x.2.1.length:=by omega
    have hw:=bn (n:=(k:Int)+1) (by omega) (by omega);have au:decide ((k:Int)<(i:Int))=true:=by grind
    simp only[au,if_true,bG,ct ub,ct E,M.be,aJ.sh,Ho,M.nn,M.iG,M.fi,M.aE,b2,hw,List.getElem_range,WL];exact lJ (mk:=λ(_:Unit)=>((i:Int),((k+1:Nat):Int),x,()))
   simp
  simp
def gG(l:List aU):List aU:=(dJ 0 99).filterMap λid=>l.find? λs=>s.1 == id
def e'(c:aQ):List aU:=(gG c.2.1).filter λs=>!c.2.2.1.contains s.1
theorem ale(l:List aU):(gG l).length<=100:=by
 refine Nat.le_trans (List.length_filterMap_le _ _) ?_;rw[show (dJ 0 99).length=100 from by decide];omega
def jk(m:List (Int×aU))(k:Int):Option aU:=(m.find? λp=>decide (k=p.1)).map (·.2)
def iT(m:List (Int×aU)):z1':=m.map (·.1)
theorem N1(p:Int×aU)(m:List (Int×aU))(k:Int)(v:aU):kH (p::m) k v=if decide (k=p.1)=true then (p.1,v)::m else p::kH m k v:=rfl
theorem N2(k:Int)(v:aU):kH [] k v=[(k,v)]:=rfl
theorem WT(k:Int)(v:aU):∀ m:List (Int×aU),(kH m k v).length<=m.length+1
 | []=>by rw[N2];simp
 | p::m=>by
  rw[N1];split
  ·simp
  ·simp;exact WT k v m
theorem N3(k:Int)(v:aU)(x:Int):∀ m:List (Int×aU),jk (kH m k v) x=if x=k then some v else jk m x
 | []=>by
  rw[N2];by_cases h:x=k<;>simp[jk,h]
 | p::m=>by
  rw[N1];have aH:=N3 k v x m;unfold jk at aH ⊢;grind
theorem DL(k:Int)(v:aU):∀ m:List (Int×aU),((iT m).Nodup->(iT (kH m k v)).Nodup)/\∀ x,x∈iT (kH m k v)<->x∈iT m\/x=k
 | []=>by rw[N2];simp[iT]
 | p::m=>by
  obtain⟨h1,h2⟩:=DL k v m;rw[N1];by_cases h:k=p.1
  ·subst h;simp only[decide_true,if_true];refine⟨λh=>h,λx=>?_⟩;show x∈p.1::iT m<->x∈p.1::iT m\/x=p.1;grind
  ·simp only[h,decide_false,Bool.false_eq_true,if_false];refine⟨λaz=>?_,λx=>?_⟩
   ·show (p.1::iT (kH m k v)).Nodup;have Cd:(p.1::iT m).Nodup:=az;grind
   ·show x∈p.1::iT (kH m k v)<->x∈p.1::iT m\/x=k;grind
theorem WU{m:List (Int×aU)}{k:Int}:k∈iT m<->(jk m k).isSome=true:=by
 unfold jk iT;simp
def Am(l:List aU):Prop:=∀ a∈l,∀ b∈l,a.1=b.1->a=b
def qh(l:List aU)(k:Int):Option aU:=l.find? λs=>s.1 == k
def rf:List aU->List (Int×aU)->Option (List (Int×aU))
 | [],m=>some m
 | s::l,m=>if ((jk m s.1).isSome&&!decide ((jk m s.1).getD jj=s))=true then none else rf l (kH m s.1 s)
structure uc(P:List aU)(m:List (Int×aU)):Prop where
 ov:∀ k,jk m k=qh P k
 mb:(iT m).Nodup
 An:Am P
 DM:m.length<=P.length
theorem WV{l:List aU}{k:Int}{s:aU}(h:qh l k=some s):s∈l/\s.1=k:=by
 unfold qh at h;grind
theorem alf{l:List aU}{k:Int}(h:qh l k=none):∀ s∈l,s.1≠k:=by
 unfold qh at h;grind
theorem uc.nil:uc [] []:=⟨λ_=>rfl,.nil,λa h=>by simp,Nat.le_refl _⟩
theorem Ao:∀ (l P:List aU) (m:List (Int×aU)),uc P m->(Am (P++l)->∃ da,rf l m=some da/\uc (P++l) da)/\(¬Am (P++l)->rf l m=none)
 | [],P,m,h=>by simp only[List.append_nil];exact⟨λ_=>⟨m,rfl,h⟩,λaz=>absurd h.An az⟩
 | s::l,P,m,h=>by
  unfold rf;rw[h.ov];cases ar:qh P s.1 with
  | some o=>
   obtain⟨ag,E⟩:=WV ar;by_cases he:o=s
   ·subst he;simp only[Option.isSome_some,Option.getD_some,decide_true,Bool.not_true,Bool.and_false,Bool.false_eq_true,if_false];have:=Ao l (P++[o]) (kH m o.1 o) ⟨λk=>?_,(DL _ _ _).1 h.mb,?_,?_⟩
    ·grind
    ·rw[N3,h.ov];unfold qh at ar ⊢;grind
    ·intro a aV b ab vC;simp only[List.mem_append,List.mem_singleton]at aV ab;exact h.An a (aV.elim id λe=>e ▸ ag) b (ab.elim id λe=>e ▸ ag) vC
    ·have an:o.1∈iT m:=WU.2 (by rw[h.ov,ar];rfl);have ai:(iT (kH m o.1 o)).length<=(iT m).length:=by
      have h1:=(DL o.1 o m).1 h.mb;have h2:iT (kH m o.1 o) ⊆ iT m:=λx hx=>by
       rcases ((DL o.1 o m).2 x).1 hx with hx | hx
       ·exact hx
       ·exact hx ▸ an
      exact h1.length_le_of_subset h2
     have:=h.DM;simp only[iT,List.length_map]at ai;grind
   ·simp only[Option.isSome_some,Option.getD_some,he,decide_false,Bool.not_false,Bool.and_self,if_true];refine⟨λaz=>absurd (az o (by grind) s (by simp) E) he,λ_=>trivial⟩
  | none=>
   simp only[Option.isSome_none,Bool.false_and,Bool.false_eq_true,if_false];have:=Ao l (P++[s]) (kH m s.1 s) ⟨λk=>?_,(DL _ _ _).1 h.mb,?_,?_⟩
   ·grind
   ·rw[N3,h.ov];have q1:=ar;unfold qh at ar ⊢;grind
   ·have ar:=alf ar;intro a aV b ab vC;simp only[List.mem_append,List.mem_singleton]at aV ab;rcases aV with aV | rfl<;>rcases ab with ab | rfl
    ·exact h.An a aV b ab vC
    ·exact absurd vC (ar a aV)
    ·exact absurd vC.symm (ar b ab)
    ·rfl
   ·have:=WT s.1 s m;have:=h.DM;grind
theorem Ap(l:List aU):kL l=false<->Am l:=by
 unfold kL t_;rw[<-Bool.not_eq_true,List.any_eq_true];constructor
 ·intro h a aV b ab vC;obtain⟨i,E,rfl⟩:=List.mem_iff_getElem.1 aV;obtain⟨k,ao,rfl⟩:=List.mem_iff_getElem.1 ab;by_cases he:l[i]=l[k]
  ·exact he
  ·exfalso;have ea:i≠k:=λe=>he (by grind);rcases Nat.lt_or_gt_of_ne ea with b4 | b4
   ·refine h ⟨k,by grind,List.any_eq_true.2 ⟨i,by grind,?_⟩⟩;grind
   ·refine h ⟨i,by grind,List.any_eq_true.2 ⟨k,by grind,?_⟩⟩;grind
 ·rintro h ⟨i,E,ao⟩;obtain⟨k,ao,hc⟩:=List.any_eq_true.1 ao;simp only[List.mem_range]at E ao;rw[sA E,sA (by omega:k<l.length)]at hc;simp only[Bool.and_eq_true,decide_eq_true_eq,Bool.not_eq_true',decide_eq_false_iff_not]at hc;exact hc.2 (h _ (List.getElem_mem _) _ (List.getElem_mem _) hc.1)
theorem alg{l:List aU}:kL l=true<->¬Am l:=by rw[<-Ap];simp
theorem WW{l:List aU}{m:List (Int×aU)}(h:uc l m)(hid:∀ s∈l,bM s.1 0 99=true):(e_ gX (iT m)).map (λk=>(jk m k).getD jj)=gG l:=by
 have e1:e_ gX (iT m)=(dJ 0 99).filter λk=>(qh l k).isSome:=by
  refine Ah ?_ ?_
  ·refine List.Pairwise.filter _ ?_;unfold dJ;rw[List.pairwise_map];exact (List.pairwise_lt_range).imp λh=>by omega
  ·refine (List.perm_ext_iff_of_nodup h.mb ?_).2 λk=>?_
   ·refine List.Pairwise.filter _ ?_;unfold dJ;rw[List.pairwise_map];exact (List.pairwise_lt_range).imp λh=>by omega
   ·rw[WU,h.ov,List.mem_filter,sn];refine⟨λhs=>⟨?_,hs⟩,λhs=>hs.2⟩;obtain⟨s,hs⟩:=Option.isSome_iff_exists.1 hs;obtain⟨h1,h2⟩:=WV hs;exact h2 ▸ oA.1 (hid s h1)
 rw[e1];unfold gG;have:∀ L:z1',(L.filter λk=>(qh l k).isSome).map (λk=>(jk m k).getD jj)=L.filterMap λid=>l.find? λs=>s.1 == id:=by
  intro L;induction L with
  | nil=>rfl
  | cons k L aH=>
   rw[List.filter_cons,List.filterMap_cons];have e:(l.find? λs=>s.1 == k)=qh l k:=rfl;rw[e];cases ar:qh l k with
   | none=>grind
   | some s=>
    have hZ:(jk m k).getD jj=s:=by rw[h.ov,ar];rfl
    grind
 grind
theorem alh{l:List aU}{m:List (Int×aU)}(h:uc l m)(hid:∀ s∈l,bM s.1 0 99=true):(gG l).length<=l.length:=by
 rw[<-WW h hid,List.length_map,Hq,iT,List.length_map];exact h.DM
theorem WX{aF:Type}{r:aF}{fin:List (Int×aU)->aF}:∀ (l:List aU) (m:List (Int×aU)),eE (λs m=>if ((jk m s.1).isSome&&!decide ((jk m s.1).getD jj=s))=true then .done r else .next (kH m s.1 s)) fin l m=match rf l m with | none=>r | some da=>fin da
 | [],m=>rfl
 | s::l,m=>by
  simp only[eE,rf];by_cases h:((jk m s.1).isSome&&!decide ((jk m s.1).getD jj=s))=true
  ·grind
  ·simp only[h,Bool.false_eq_true,if_false];exact WX l _
def vD(l:List aU):Prop:=l.length<=24/\∀ s∈l,bM s.1 0 99=true
abbrev Aq:aJ:=⟨.slice gV,.aw (.slice gV) .bool,vD,λl=>if kL l=true then ([],false) else (gG l,true)⟩
theorem ali{m:List (Int×aU)}{xX:z1'}{aF:Type}(h:xX.length<=24) :
 M.loop (λ(A:z1'×Int×Int×List aU×List (Int×aU)×Unit)=>if decide (A.2.2.1<A.2.1)=true then M.ae (0<=A.2.2.1/\A.2.2.1<Int.ofNat (List.length A.1)) (M.ae (bT
 (Add.add (List.length A.2.2.2.1) (Add.add 0 1))) (M.pure (aa.next (A.1,A.2.1,IntKind.wrap .i64 (Add.add A.2.2.1 1),A.2.2.2.1++[Option.getD
 (Option.map (λx=>x.2) (List.find? (λp=>decide (List.getD A.1 (Int.toNat A.2.2.1) 0=p.1)) A.2.2.2.2.1)) (0,0,0,0,0,0)],A.2.2.2.2.1,())))) else M.bind (M.pure (aa.next (A.2.2.2.1,()))) λr=>M.pure (aa.done r)) (xX,Int.ofNat (List.length xX),0,[],m,())=M.pure (aa.next (xX.map (λk=>(jk m k).getD jj),()):aa (List aU×Unit) aF):=by
 rw[M.fZ xX (λi (b:List aU)=>(xX,(xX.length:Int),(i:Int),b,m,())) (λk b=>.next (b++[(jk m k).getD jj])) (λb=>.next (b,())) (λi b=>b.length=i) [] ?_ ?_ ?_ ?_]
 ·rw[dP,xK];rfl
 ·rfl
 ·rfl
 ·intro i E b ab;have hw:=bn (n:=(i:Int)+1) (by omega) (by omega);refine⟨?_,λaZ cS=>?_⟩
  ·simp only[bG,cC E,if_true,cV E,ct E,M.be,b2,hw];rw[M.bk (gp (by grind))];rfl
  grind
 simp
def sB{gb:Type}(R:M gb):List aU×Int×Int×List (Int×aU)×Unit->M (aa (List aU×Int×Int×List (Int×aU)×Unit) (aa (List (Int×aU)×Unit) gb)):=λ(A:List aU×Int×Int×List (Int×aU)×Unit)=>if decide (A.2.2.1<A.2.1)=true then M.ae (0<=A.2.2.1/\A.2.2.1 <
 Int.ofNat (List.length A.1)) (if (Option.isSome (Option.map (λx=>x.2) (List.find? (λp=>decide ((List.getD A.1 (Int.toNat A.2.2.1) (0,0,0,0,0,0)).1=p.1)) A.2.2.2.1))&&!(decide ((Option.getD (Option.map (λx=>x.2) (List.find? (λp=>decide ((List.getD A.1 (Int.toNat A.2.2.1)
 (0,0,0,0,0,0)).1=p.1)) A.2.2.2.1)) (0,0,0,0,0,0)).1=(List.getD A.1 (Int.toNat A.2.2.1) (0,0,0,0,0,0)).1)&&(decide ((Option.getD
 (Option.map (λx=>x.2) (List.find? (λp=>decide ((List.getD A.1 (Int.toNat A.2.2.1) (0,0,0,0,0,0)).1=p.1)) A.2.2.2.1)) (0,0,0,0,0,0)).2.1=(List.getD A.1 (Int.toNat A.2.2.1) (0,0,0,0,0,0)).2.1)&&(decide ((Option.getD (Option.map (λx=>x.2) (List.find? (λp=>
 decide ((List.getD A.1 (Int.toNat A.2.2.1) (0,0,0,0,0,0)).1=p.1)) A.2.2.2.1)) (0,0,0,0,0,0)).2.2.1=(List.getD A.1 (Int.toNat A.2.2.1)
 (0,0,0,0,0,0)).2.2.1)&&(decide ((Option.getD (Option.map (λx=>x.2) (List.find? (λp=>decide ((List.getD A.1 (Int.toNat A.2.2.1) (0,0,0,0,0,0)).1=p.1)) A.2.2.2.1)) (0,0,0,0,0,0)).2.2.2.1=(List.getD A.1 (Int.toNat A.2.2.1) (0,0,0,0,0,0)).2.2.2.1)&&(decide
 ((Option.getD (Option.map (λx=>x.2) (List.find? (λp=>decide ((List.getD A.1 (Int.toNat A.2.2.1) (0,0,0,0,0,0)).1=p.1)) A.2.2.2.1))
 (0,0,0,0,0,0)).2.2.2.2.1=(List.getD A.1 (Int.toNat A.2.2.1) (0,0,0,0,0,0)).2.2.2.2.1)&&decide ((Option.getD (Option.map (λx=>x.2)
 (List.find? (λp=>decide ((List.getD A.1 (Int.toNat A.2.2.1) (0,0,0,0,0,0)).1=p.1)) A.2.2.2.1)) (0,0,0,0,0,0)).2.2.2.2.2=(List.getD
 A.1 (Int.toNat A.2.2.1) (0,0,0,0,0,0)).2.2.2.2.2)))))))=true then M.bind (M.bind R λr=>M.pure (aa.done r)) λr=>
 M.pure (aa.done r) else M.pure (aa.next (A.1,A.2.1,IntKind.wrap .i64 (Add.add A.2.2.1 1),kH A.2.2.2.1 (List.getD A.1 (Int.toNat A.2.2.1)
 (0,0,0,0,0,0)).1 (List.getD A.1 (Int.toNat A.2.2.1) (0,0,0,0,0,0)),()))) else M.bind (M.pure (aa.next (A.2.2.2.1,()))) λr=>M.pure
 (aa.done r)
theorem WY{gb:Type}{R:M gb}{l:List aU}(ai:l.length<=24){i:Nat}(E:i<l.length)(m:List (Int×aU)):sB R (l,(l.length:Int),(i:Int),m,())=if ((jk m l[i].1).isSome&&!decide ((jk m l[i].1).getD jj=l[i]))=true then M.bind (M.bind R λr=>M.pure (aa.done r)) λr=>M.pure (aa.done r) else M.pure (.next (l,(l.length:Int),((i+1:Nat):Int),kH m l[i].1 l[i],())):=by
 have hw:=bn (n:=(i:Int)+1) (by omega) (by omega);have es:=WA ((jk m l[i].1).getD jj) l[i];unfold sB;simp only[bG,cC E,if_true,cV E,ct E,M.be,b2,hw];rw[show (Option.map (λx=>x.2) (List.find? (λp=>decide (l[i].1=p.1)) m))=jk m l[i].1 from rfl];grind
theorem WZ{gb:Type}{R:M gb}{l:List aU}(m:List (Int×aU)):sB R (l,(l.length:Int),(l.length:Int),m,())=M.pure (.done (.next (m,()))):=by
 unfold sB;simp
def Ar{gb:Type}(k:List aU->M gb):List (Int×aU)×Unit->M gb:=λ(A:List (Int×aU)×Unit)=>M.bind (M.bind
 (xW.sh A.1) λy=>M.bind (sw.sh y) λy=>M.loop (λ(A:z1'×Int×Int×List aU×
 List (Int×aU)×Unit)=>if decide (A.2.2.1<A.2.1)=true then M.ae (0<=A.2.2.1/\A.2.2.1<Int.ofNat (List.length A.1)) (M.ae (bT
 (Add.add (List.length A.2.2.2.1) (Add.add 0 1))) (M.pure (aa.next (A.1,A.2.1,IntKind.wrap .i64 (Add.add A.2.2.1 1),A.2.2.2.1++[Option.getD
 (Option.map (λx=>x.2) (List.find? (λp=>decide (List.getD A.1 (Int.toNat A.2.2.1) 0=p.1)) A.2.2.2.2.1)) (0,0,0,0,0,0)],A.2.2.2.2.1,())))) else M.bind (M.pure (aa.next (A.2.2.2.1,()))) λr=>M.pure (aa.done r)) (y,Int.ofNat (List.length y),0,[],A.1,())) (aa.bm λ(A
 : List aU×Unit)=>k A.1)
theorem alj{l:List aU}{m:List (Int×aU)}(d_:uc l m)(hid:vD l){gb:Type}(k:List aU->M gb):Ar k (m,())=k (gG l):=by
 obtain⟨ai,hid⟩:=hid;have hp:sw.pre (jG (some m)):=WO (by have:=d_.DM;omega);have e:sw.sh (jG (some m))=M.pure (e_ gX (iT m)):=by
  refine (M.bE hp _).trans (congrArg M.pure ?_);exact WQ
 unfold Ar;show M.bind (M.bind (xW.sh m) _) _=_;rw[show xW.sh m=M.pure (jG (some m)) from rfl,M.aE,e,M.aE,ali (by rw[Hq,iT,List.length_map];have:=d_.DM;omega),M.aE,M.bK,WW d_ hid]
theorem W0(l:List aU)(h:vD l)(hc:kL l=false){gb:Type}(k:List aU->M gb)(R:M gb) :
  M.bind (M.loop (sB R) (l,Int.ofNat (List.length l),0,[],())) (aa.bm (Ar k))=k (gG l):=by
 have az:=(Ap l).1 hc;obtain⟨h1,_⟩:=Ao l [] [] .nil;rw[List.nil_append]at h1;obtain⟨m,an,d_⟩:=h1 az;have key:M.loop (sB R) (l,Int.ofNat (List.length l),0,[],())=M.pure (.next (m,())):=by
  have gen:∀ (k:Nat) (i:Nat) (da:List (Int×aU)),l.length - i=k->i<=l.length->rf (l.drop i) da=some m->uc (l.take i) da->M.loop (sB R) (l,(l.length:Int),(i:Int),da,())=M.pure (.next (m,())):=by
   intro k;induction k with
   | zero=>
    intro i da ao E ag _;have:i=l.length:=by omega
    subst this;rw[List.drop_length]at ag;simp only[rf,Option.some.injEq]at ag;subst ag;exact M.rF (WZ _)
   | succ k aH=>
    intro i da ao E ag MF;have E:i<l.length:=by omega
    rw[List.drop_eq_getElem_cons E]at ag;unfold rf at ag;split at ag
    ·cases ag
    ·rename_i Fv;refine (M.yJ ((WY h.1 E da).trans (if_neg Fv))).trans ?_;refine aH (i+1) _ (by omega) E ag ?_;obtain⟨g1,_⟩:=Ao [l[i]] (l.take i) da MF;have pn:l.take i++[l[i]]=l.take (i+1):=by simp
     rw[pn]at g1;obtain⟨axW,e1,e2⟩:=g1 λa aV b ab=>az a (List.mem_of_mem_take aV) b (List.mem_of_mem_take ab);unfold rf at e1;rw[if_neg Fv]at e1;simp only[rf,Option.some.injEq]at e1;grind
  exact gen l.length 0 [] rfl (Nat.zero_le _) an .nil
 rw[key,M.aE,M.bK,alj d_ h]
theorem alk(l:List aU)(h:vD l)(hc:kL l=true){gb:Type}(k:List aU->M gb)(r:gb) :
  M.bind (M.loop (sB (M.pure r)) (l,Int.ofNat (List.length l),0,[],())) (aa.bm (Ar k))=M.pure r:=by
 rw[M.dh l (λi (m:List (Int×aU))=>(l,(l.length:Int),(i:Int),m,())) (λs m=>if ((jk m s.1).isSome&&!decide ((jk m s.1).getD jj=s))=true then (.done (.done r):aa (List (Int×aU)) (aa (List (Int×aU)×Unit) _)) else .next (kH m s.1 s)) (λm=>.next (m,())) [] ?_ ?_ ?_]
 ·rw[WX];obtain⟨_,h2⟩:=Ao l [] [] .nil;rw[h2 (alg.1 hc)];simp
 ·rfl
 ·intro i E m;rw[WY h.1 E m,M.aE,M.aE];exact UW (mk:=λ(m:List (Int×aU))=>(l,(l.length:Int),((i+1:Nat):Int),m,()))
 ·intro m;exact WZ m
theorem alm(x):M.le (akg sw.sh xW.sh x) (Aq.sh x):=M.bg λh=>by
 show M.bind (M.loop (sB (M.pure ([],false))) (x,Int.ofNat (List.length x),0,[],())) (aa.bm (Ar λa=>M.pure (a,true)))=M.pure (if kL x=true then ([],false) else (gG x,true));cases hc:kL x with
 | true=>exact alk x h hc _ _
 | false=>exact W0 x h hc _ _
def Hw(x:List aU×Unit):M (Bool×List aU×Unit):=M.dv (vD x.1/\kL x.1=false) (true,gG x.1,())
theorem aln(x):M.le (akt sw.sh xW.sh x) (Hw x):=M.bg λh=>by
 show M.bind (M.loop (sB (M.pure (false,[],()))) (x.1,Int.ofNat (List.length x.1),0,[],())) (aa.bm (Ar λa=>M.pure (true,a,())))=_;exact W0 x.1 h.1 h.2 _ _
theorem Hx{c:aQ}(h:jH c=true):vD c.2.1:=by
 unfold jH sz at h;simp only[Bool.and_eq_true,List.all_eq_true,Bool.not_eq_true',Bool.or_eq_false_iff,decide_eq_false_iff_not]at h;obtain⟨⟨⟨⟨⟨bb,_⟩,_⟩,h2⟩,_⟩,_⟩:=h;refine⟨by omega,λs hs=>?_⟩;have:=h2 s hs;unfold k_ at this;grind
theorem alo(x):M.le (VM vA.sh Aq.sh x) (gY.sh x):=M.bg λh=>by
 unfold VM;show _=M.pure (cu x);rw[show vA.sh x=M.pure (jH x) from M.bE h _];unfold cu;cases hc:jH x with
 | false=>simp
 | true=>
  simp only[M.aE,Bool.not_true,Bool.false_eq_true,if_false,if_true];rw[show Aq.sh x.2.1=M.pure (if kL x.2.1=true then ([],false) else (gG x.2.1,true)) from M.bE (Hx hc) _];cases kL x.2.1<;>simp
def Hy(x:(aU->M Bool)×List aU×Unit):M ((Nat×Nat)×List aU×Unit):=M.dv (x.2.1.length<2 ^ 63/\∀ y∈x.2.1,∃ b,x.1 y=M.pure b)
 ((0,(x.2.1.filter λs=>!(x.1 s).val false).length),(x.2.1.filter λs=>!(x.1 s).val false)++List.replicate (x.2.1.length - (x.2.1.filter λs=>!(x.1 s).val false).length) jj,())
theorem W1{aj:Type}(p:aj->Bool):∀ (l:List aj) (i:Int),(l.any p=true->∃ k:Nat,∃ h:k<l.length,hA p l i=i+k/\p l[k]=true/\(∀ y∈l.take k,p y=false))
 | [],i,h=>by grind
 | x::l,i,h=>by
  unfold hA;by_cases hx:p x=true
  ·grind
  ·have nw:p x=false:=by grind
   simp only[List.any_cons,nw,Bool.false_or]at h;obtain⟨k,ao,h1,h2,h3⟩:=W1 p l (i+1) h;refine⟨k+1,by grind,by grind,by grind,?_⟩;grind
theorem alp(x):M.le (Wq (kK gV).sh x) (Hy x):=M.bg λh=>by
 obtain⟨f,l,u⟩:=x;obtain⟨h1,h2⟩:=h;change l.length<2 ^ 63 at h1;change ∀ y∈l,∃ b,f y=M.pure b at h2;unfold Wq;rw[show (kK gV).sh (l,f)=M.pure (hA (λy=>(f y).val false) l 0) from M.bE ⟨h1,h2⟩ _];rw[M.aE];by_cases aV:(l.any λy=>(f y).val false)=true
 ·obtain⟨k,ao,e1,e2,e3⟩:=W1 (λy=>(f y).val false) l 0 aV;have hw:=bn (n:=(k:Int)+1) (by omega) (by omega);have ea:¬(decide ((0:Int)+k=-1)=true):=by simp
  rw[e1,if_neg ea];generalize bf:(λs=>!(f s).val false)=q at *
  have alq:∀ s,(!(f s).val false)=q s:=λs=>by grind
  have pn:l.take k=(l.take k).filter q:=by
   rw[List.filter_eq_self.2];grind
  have Hs:(l.take (k+1)).filter q=l.take k:=by
   rw[List.take_add_one,List.getElem?_eq_getElem ao,Option.toList_some,List.filter_append,<-pn];grind
  rw[M.dh (l.drop (k+1)) (λi (_:Unit)=>(f,(((l.take (k+1+i)).filter q).length:Int),((k+1+i:Nat):Int),(l.take (k+1+i)).filter q++l.drop ((l.take (k+1+i)).filter q).length,())) (λ_ u=>.next u) (λ_=>.next (((l.filter q).length:Int),l.filter q++l.drop (l.filter q).length,())) () ?_ ?_ ?_]
  ·rw[dP];have hlen:(l.filter q).length<=l.length:=List.length_filter_le _ _;have fV:(l.filter q++l.drop (l.filter q).length).length=l.length:=by grind
   simp only[M.aE,M.bK,bG,fV];rw[M.bk (by omega)];simp only[M.be,Int.toNat_natCast];have er:List.take (l.filter q).length (l.filter q++l.drop (l.filter q).length)=l.filter q:=List.take_left;rw[er];refine (M.bk ⟨by omega,by omega,by grind⟩ _).trans ?_;refine congrArg M.pure (Prod.ext rfl (Prod.ext ?_ rfl));show (_++_++_:List aU)=_;exact (congrArg (λz=>_++z) (List.drop_eq_nil_iff.2 (by simp))).trans (List.append_nil _)
  ·show (f,(0:Int)+k,IntKind.wrap .i64 (Add.add ((0:Int)+k) 1),l,())=_;rw[Int.zero_add,b2,hw];refine Prod.ext rfl (Prod.ext ?_ (Prod.ext ?_ (Prod.ext ?_ rfl)))
   ·grind
   ·rfl
   ·show l=(l.take (k+1+0)).filter q++l.drop ((l.take (k+1+0)).filter q).length;rw[Nat.add_zero,Hs,List.length_take,Nat.min_eq_left (by omega),List.take_append_drop]
  ·intro i E _;have E:k+1+i<l.length:=by grind
   have hle:((l.take (k+1+i)).filter q).length<=k+i:=by
    have h1:=List.length_filter_le q (l.drop (k+1) |>.take i);rw[List.take_add,List.filter_append,List.length_append,Hs];grind
   have b4:((l.take (k+1+i)).filter q).length<l.length:=by omega
   have kC:((l.take (k+1+i)).filter q++l.drop ((l.take (k+1+i)).filter q).length).length=l.length:=by grind
   have hw:=bn (n:=((k+1+i:Nat):Int)+1) (by omega) (by omega);have gl:=bn (n:=(((l.take (k+1+i)).filter q).length:Int)+1) (by omega) (by omega);have df:k+1+i<((l.take (k+1+i)).filter q++l.drop ((l.take (k+1+i)).filter q).length).length:=by omega
   have BY:((l.take (k+1+i)).filter q).length<((l.take (k+1+i)).filter q++l.drop ((l.take (k+1+i)).filter q).length).length:=by omega
   have iD:((l.take (k+1+i)).filter q++l.drop ((l.take (k+1+i)).filter q).length)[k+1+i]=l[k+1+i]:=by
    rw[List.getElem_append_right (by omega),List.getElem_drop];congr 1;omega
   obtain⟨b,ab⟩:=h2 _ (List.getElem_mem E);have hv:q l[k+1+i]=!b:=by rw[<-alq,ab,M.fi]
   have pn:(l.take (k+1+(i+1))).filter q=(l.take (k+1+i)).filter q++(if (!b)=true then [l[k+1+i]] else []):=by
    rw[show k+1+(i+1)=k+1+i+1 from rfl,List.take_add_one,List.getElem?_eq_getElem E,Option.toList_some,List.filter_append,List.filter_cons,hv,List.filter_nil]
   simp only[bG,cC df,if_true,cV df,ct df,ct BY,M.be,iD,ab,M.aE,b2,gl];simp only[Int.toNat_natCast];cases b with
   | true=>
    simp only[Bool.not_true,Bool.false_eq_true,if_false,M.aE,M.bK,hw,aa.gT,List.append_nil]at pn ⊢;grind
   | false=>
    simp only[Bool.not_false,if_true,M.aE,M.bK,hw,aa.gT]at pn ⊢;have es:(List.filter q (List.take (k+1+i) l)++List.drop (List.filter q (List.take (k+1+i) l)).length l).set (List.filter q (List.take (k+1+i) l)).length l[k+1+i]=(l.take (k+1+(i+1))).filter q++l.drop ((l.take (k+1+(i+1))).filter q).length:=by
     rw[pn,List.set_append_right _ _ (Nat.le_refl _),Nat.sub_self,List.drop_eq_getElem_cons b4,List.set_cons_zero];simp
    rw[es];have en:(((l.take (k+1+i)).filter q).length:Int)+1=(((l.take (k+1+(i+1))).filter q).length:Int):=by grind
    grind
  ·intro _;have ai:(l.drop (k+1)).length=l.length - (k+1):=by simp
   have e0:k+1+(l.drop (k+1)).length=l.length:=by omega
   have hle:(l.filter q).length<=l.length:=List.length_filter_le _ _;simp only[e0,List.take_length];rw[if_neg (by grind),M.aE]
 ·rw[DI _ _ aV];have:(l.filter λs=>!(f s).val false)=l:=by
   simp_all
  simp only[decide_true,if_true,this,Nat.sub_self,List.replicate_zero,List.append_nil]
abbrev e0:bj:=((0,0,0,0,0,0),0)
def oB(c:aQ)(w:z1')(u:Int):List bj:=((e' c).filter λs=>decide (tZ s=u)).map λs=>(s,xT s+w.getD (ph s).toNat 0)
def bP(c:aQ)(w:z1')(u:Int):List bj:=e_ hL (oB c w u)
def qi(l:List bj)(i:Nat):Bool:=!(decide (0<i)&&decide ((l.getD i e0).2=(l.getD (i - 1) e0).2))&&decide (dQ (l.getD i e0).1=1+((i % 2:Nat):Int))
def ed(l:List bj):Bool:=(List.range l.length).all (qi l)
structure gH(c:aQ):Prop where
 ck:cu c=0
 dH:c.1.length<=3
 dM:c.2.1.length<=12
 jv:c.2.2.1.length<=12
 n4:c.2.2.2.1.length<=4
 iM:jH c=true
 An:Am c.2.1
 N4:pj c.2.2.2.2=true
 clk:∀ s∈c.1,-30<=s.1/\s.1<=s.2/\s.2<=30
 iU:∀ s∈c.2.1,k_ c.1.length s=true
 ih:Al c.2.2.2.1=true
theorem oC{c:aQ}(h:cu c=0):gH c:=by
 have h0:=h;unfold cu at h;split at h
 ·rename_i hc;split at h
  ·omega
  ·rename_i az;have lC:=hc;unfold jH sz at hc;simp only[Bool.and_eq_true,List.all_eq_true,Bool.not_eq_true',Bool.or_eq_false_iff,decide_eq_false_iff_not]at hc;obtain⟨⟨⟨⟨⟨⟨⟨⟨bV,a2⟩,a3⟩,a4⟩,a5⟩,f'⟩,ga⟩,hM⟩,a9⟩:=hc;refine⟨h0,by omega,by omega,by omega,by omega,lC,(Ap _).1 (by grind),a5,λs hs=>?_,ga,a9⟩;have:=f' s hs;unfold sx at this;simp only[Bool.and_eq_true,Bool.not_eq_true',decide_eq_false_iff_not,oA]at this;omega
 omega
theorem As{n:Nat}{s:aU}:k_ n s=true<->(0<=k9 s/\k9 s<=99)/\(0<=ph s/\ph s<=(n:Int) - 1)/\(0<=xT s/\xT s<=9999)/\(0<=tZ s/\tZ s<=9)/\(0<=iB s/\iB s<=99)/\(dQ s=1\/dQ s=2/\iB s=0):=by
 unfold k_;simp only[Bool.and_eq_true,oA,Bool.or_eq_true,decide_eq_true_eq,and_assoc]
theorem gH.alr{c:aQ}(h:gH c):∃ m,uc c.2.1 m:=by
 obtain⟨h1,_⟩:=Ao c.2.1 [] [] .nil;rw[List.nil_append]at h1;obtain⟨m,_,d_⟩:=h1 h.An;grind
theorem gH.N5{c:aQ}(h:gH c):(e' c).length<=12:=by
 obtain⟨m,d_⟩:=h.alr;have h1:=alh d_ (Hx h.iM).2;have h2:=List.length_filter_le (λs:aU=>!c.2.2.1.contains s.1) (gG c.2.1);have:=h.dM;unfold e';omega
theorem DN{l:List aU}{s:aU}(h:s∈gG l):s∈l:=by
 unfold gG at h;grind
theorem als{c:aQ}{s:aU}(h:s∈e' c):s∈c.2.1:=DN (List.mem_filter.1 h).1
theorem gH.Au{c:aQ}(h:gH c){s:aU}(hs:s∈e' c):k_ c.1.length s=true:=h.iU s (als hs)
def po(c:aQ)(w:z1'):Prop:=w.length=c.1.length/\∀ n∈w,-30<=n/\n<=30
theorem po.at{c:aQ}{w:z1'}(h:po c w)(aA:gH c){s:aU}(hs:s∈e' c):0<=ph s/\ph s<(w.length:Int)/\-30<=w.getD (ph s).toNat 0/\w.getD (ph s).toNat 0<=30:=by
 have h1:=(As.1 (aA.Au hs)).2.1;have ai:ph s<(w.length:Int):=by rw[h.1];omega
 exact⟨h1.1,ai,h.2 _ (xL h1.1 ai)⟩
theorem DO{c:aQ}(h:gH c)(w:z1')(u:Int):(bP c w u).length<=12:=by
 unfold bP oB;rw[Hq,List.length_map];exact Nat.le_trans (List.length_filter_le _ _) h.N5
theorem DP{c:aQ}{w:z1'}{u:Int}{e:bj}(h:e∈bP c w u):e.1∈e' c/\tZ e.1=u/\e.2=xT e.1+w.getD (ph e.1).toNat 0:=by
 unfold bP at h;rw[WG]at h;unfold oB at h;grind
theorem W2(i:Nat):Int.tmod (i:Int) 2=((i % 2:Nat):Int):=by
 rfl
theorem alu(l:List bj)(i:Nat):(decide ((i:Int) > 0)&&decide ((l.getD i e0).2=(l.getD (i - 1) e0).2)||decide (dQ (l.getD i e0).1≠1+((i % 2:Nat):Int)))=!qi l i:=by
 unfold qi;simp
def j_(a b:Int)(s:Int×Int):Int:=max 0 (min (b - 1) s.2 - max a s.1+1)
def lO(cl:z4')(a b:Int):Int:=cl.foldl (λn s=>n - j_ a b s) (b - a)
def W3(cl:z4'):Prop:=cl.length<=4/\∀ s∈cl,0<=s.1/\s.1<=s.2/\s.2<=9999
theorem gH.N6{c:aQ}(h:gH c):W3 c.2.2.2.1:=by
 refine⟨h.n4,λs hs=>?_⟩;have:=h.ih;unfold Al at this;rw[List.all_eq_true]at this;obtain⟨i,E,rfl⟩:=List.mem_iff_getElem.1 hs;have:=this i (by grind);unfold iC at this;rw[sA E]at this;simp only[Bool.and_eq_true,oA,Bool.not_eq_true',decide_eq_false_iff_not]at this;omega
abbrev Av(x:aQ×Int×Int):Prop:=W3 x.1.2.2.2.1/\-100<=x.2.1/\x.2.1<=x.2.2/\x.2.2<=11000
theorem alv{a b:Int}{s:Int×Int}(aV:-100<=a)(ab:b<=11000)(hs:0<=s.1/\s.1<=s.2/\s.2<=9999):0<=j_ a b s/\j_ a b s<=20000:=by
 unfold j_;omega
theorem W4{n:Int}:(if n > 0 then n else 0)=max 0 n:=by omega
theorem W5{a b:Int}:(if a<b then a else b)=min b a:=by omega
theorem alw{a b:Int}:(if a<b then a else b)=min a b:=by omega
theorem alx{a b:Int}:(if a > b then a else b)=max b a:=by omega
theorem aly{a b:Int}:(if a > b then a else b)=max a b:=by omega
abbrev vF:aJ:=⟨.aw ji (.aw tI tI),tI,Av,λx=>lO x.1.2.2.2.1 x.2.1 x.2.2⟩
theorem alz(x):M.le (V9 x) (vF.sh x):=M.bg λh=>by
 obtain⟨c,a,b⟩:=x;obtain⟨⟨h1,h2⟩,h3,aR,bw⟩:=h;change -100<=a at h3;change a<=b at aR;change b<=11000 at bw;change c.2.2.2.1.length<=4 at h1;change ∀ s∈c.2.2.2.1,_ at h2;unfold V9;have zV:=bn (n:=b - a) (by omega) (by omega);rw[M.fZ c.2.2.2.1 (λi (n:Int)=>(a,b,n,c.2.2.2.1,(c.2.2.2.1.length:Int),(i:Int),())) (λs n=>.next (n - j_ a b s)) (λn=>.next (n,())) (λi n=>-(20000*(i:Int))<=n/\n<=20000) (b - a) ?_ ?_ ?_ ?_]
 ·rw[dP,M.aE];rfl
 ·grind
 ·omega
 ·intro i E n az;have hs:=h2 _ (List.getElem_mem E);have hc:=alv (a:=a) (b:=b) h3 bw hs;have hw:=bn (n:=(i:Int)+1) (by omega) (by omega);refine⟨?_,λaZ cS=>?_⟩
  ·simp only[Prod.cK,bG,cC E,if_true,cV E,ct E,M.be,b2,hw];have b6:=bn (n:=b - 1) (by omega) (by omega);have cI:=bn (n:=min (b - 1) c.2.2.2.1[i].2 - max a c.2.2.2.1[i].1) (by omega) (by omega);have eD:=bn (n:=min (b - 1) c.2.2.2.1[i].2 - max a c.2.2.2.1[i].1+1) (by omega) (by omega);have Aw:=bn (n:=n - j_ a b c.2.2.2.1[i]) (by omega) (by omega);simp only[b6,alw,aly,cI,eD,W4];rw[show max (min (b - 1) c.2.2.2.1[i].2 - max a c.2.2.2.1[i].1+1) 0=j_ a b c.2.2.2.1[i] from Int.max_comm _ _,Aw];rfl
  grind
 simp
def la(t:pf)(m:Int):Int:=if m>=t.2.2.2.2.1 then t.2.2.2.2.2.1 else min t.2.2.2.1 ((max 0 (m - t.1)+t.2.1 - 1) / t.2.1*t.2.2.1)
abbrev xY(x:pf×Int):Prop:=pj x.1=true/\-100000<=x.2/\x.2<=20000
abbrev vG:aJ:=⟨.aw NT tI,tI,xY,λx=>la x.1 x.2⟩
theorem Hz{t:pf}:pj t=true<->(0<=t.1/\t.1<=9999)/\(1<=t.2.1/\t.2.1<=9999)/\(1<=t.2.2.2.2.1/\t.2.2.2.2.1<=9999)/\(0<=t.2.2.1/\t.2.2.1<=100000)/\(0<=t.2.2.2.1/\t.2.2.2.1<=100000)/\(0<=t.2.2.2.2.2.1/\t.2.2.2.2.2.1<=100000)/\(0<=t.2.2.2.2.2.2/\t.2.2.2.2.2.2<=100000):=by
 unfold pj;simp only[Bool.and_eq_true,oA,and_assoc]
theorem W6{t:pf}{m:Int}(h:xY (t,m)):0<=(max 0 (m - t.1)+t.2.1 - 1) / t.2.1/\(max 0 (m - t.1)+t.2.1 - 1) / t.2.1<=30000/\0<=(max 0 (m - t.1)+t.2.1 - 1) / t.2.1*t.2.2.1/\(max 0 (m - t.1)+t.2.1 - 1) / t.2.1*t.2.2.1<=3000000000:=by
 obtain⟨h1,h2,h3⟩:=h;change -100000<=m at h2;change m<=20000 at h3;obtain⟨bV,a2,a3,a4,a5,f',ga⟩:=(Hz (t:=t)).1 h1;have dt:0<=(max 0 (m - t.1)+t.2.1 - 1) / t.2.1:=Int.ediv_nonneg (by omega) (by omega);have eG:(max 0 (m - t.1)+t.2.1 - 1) / t.2.1<=max 0 (m - t.1)+t.2.1 - 1:=Int.ediv_le_self _ (by omega);have mr:(max 0 (m - t.1)+t.2.1 - 1) / t.2.1<=30000:=by omega
 refine⟨dt,mr,Int.mul_nonneg dt a4.1,?_⟩;calc (max 0 (m - t.1)+t.2.1 - 1) / t.2.1*t.2.2.1<=30000*100000:=Int.mul_le_mul mr a4.2 a4.1 (by omega)
  _=3000000000:=by decide
theorem alA{t:pf}{m:Int}(h:xY (t,m)):0<=la t m/\la t m<=100000:=by
 have:=W6 h;obtain⟨h1,h2,h3⟩:=h;obtain⟨bV,a2,a3,a4,a5,f',ga⟩:=(Hz (t:=t)).1 h1;unfold la;omega
theorem alB(x):M.le (VX x) (vG.sh x):=M.bg λh=>by
 obtain⟨t,m⟩:=x;have hu:=W6 h;obtain⟨h1,h2,h3⟩:=h;change -100000<=m at h2;change m<=20000 at h3;obtain⟨bV,a2,a3,a4,a5,f',ga⟩:=(Hz (t:=t)).1 h1;have b6:=bn (n:=m - t.1) (by omega) (by omega);have cI:=bn (n:=max 0 (m - t.1)+t.2.1) (by omega) (by omega);have eD:=bn (n:=max 0 (m - t.1)+t.2.1 - 1) (by omega) (by omega);have Aw:=bn (n:=(max 0 (m - t.1)+t.2.1 - 1) / t.2.1) (by omega) (by omega);have alC:=bn (n:=(max 0 (m - t.1)+t.2.1 - 1) / t.2.1*t.2.2.1) (by omega) (by omega);have DQ:Int.tdiv (max 0 (m - t.1)+t.2.1 - 1) t.2.1=(max 0 (m - t.1)+t.2.1 - 1) / t.2.1:=Int.tdiv_eq_ediv_of_nonneg (by omega);unfold VX;show _=M.pure (la t m);unfold la;simp only[Prod.cK,b6,W4,b2,cI,eD,DQ,Aw,Int.mul_comm t.2.2.1,alC,W5,decide_eq_true_eq];rw[M.bk (show t.2.1≠0 from by omega)];grind
def gI(c:aQ)(w:z1')(u:Int):List bj:=if ed (bP c w u)=true then bP c w u else []
def mQ(l:List bj)(minute:Int):Int×Int:=l.foldl (λb e=>if e.2<=minute then (if dQ e.1=2 then (-1,e.2) else (iB e.1,e.2)) else b) (-1,0)
def HA(c:aQ)(w:z1')(minute:Int):Int:=((dJ 0 9).foldl (λn u=>if (mQ (gI c w u) minute).1>=0 then n+1 else n) (0:Int))
def ud(l:List bj):List (bj×bj):=l.zip (l.drop 1)
def DR(cl:z4')(iU:Int)(l:List bj):Option Int:=((ud l).find? λp=>k9 p.1.1 == iU&&dQ p.1.1 == 1).map λp=>lO cl p.1.2 p.2.2
def jI(c:aQ)(w:z1')(iU:Int):Option Int:=(dJ 0 9).findSome? λu=>DR c.2.2.2.1 iU (gI c w u)
theorem alD{l:List bj}{i:Nat}(h:i+1<(e_ hL l).length):(e_ hL l)[i].2<=(e_ hL l)[i+1].2:=by
 have:=List.pairwise_iff_getElem.1 (ak0 l) i (i+1) (by omega) h (by omega);omega
theorem DS{c:aQ}(aA:gH c){w:z1'}(h2:po c w){u:Int}{e:bj}(he:e∈bP c w u):-30<=e.2/\e.2<=10029:=by
 obtain⟨h1,_,h3⟩:=DP he;have aO:=(h2.at aA h1).2.2;have aP:=(As.1 (aA.Au h1)).2.2.1;omega
theorem Ax{c:aQ}{w:z1'}{u:Int}{e:bj}(he:e∈gI c w u):e∈bP c w u:=by
 unfold gI at he;grind
theorem alE{c:aQ}{w:z1'}{u:Int}{i:Nat}(h:i+1<(gI c w u).length):(gI c w u)[i].2<=(gI c w u)[i+1].2:=by
 have key:∀ l,gI c w u=l->∀ (h:i+1<l.length),l[i].2<=l[i+1].2:=by
  intro l ai h;unfold gI at ai;split at ai
  ·subst ai;exact alD h
  grind
 grind
theorem W7{c:aQ}(aA:gH c){w:z1'}(h2:po c w){u:Int}{i:Nat}(h:i+1<(gI c w u).length):Av (c,(gI c w u)[i].2,(gI c w u)[i+1].2):=by
 have h3:=DS aA h2 (Ax (List.getElem_mem (by omega:i<(gI c w u).length)));have aR:=DS aA h2 (Ax (List.getElem_mem h));exact⟨aA.N6,show -100<=(gI c w u)[i].2 by omega,alE h,show (gI c w u)[i+1].2<=11000 by omega⟩
theorem alF{l:List bj}{i:Nat}(h:i<(ud l).length):∃ h2:i+1<l.length,(ud l)[i]=(l[i],l[i+1]):=by
 unfold ud at h ⊢;grind
theorem alG{a b:Int}{s:Int×Int}(h:b<=s.1):j_ a b s=0:=by unfold j_;omega
def rh:z4'->Prop
 | []=>True
 | s::r=>s.1<=s.2/\(∀ t∈r,s.2<t.1)/\rh r
theorem N7:∀ (cl:z4') (a b n:Int),cl.foldl (λn s=>n - j_ a b s) n=n - (cl.map (j_ a b)).sum
 | [],a,b,n=>by simp
 | s::r,a,b,n=>by simp only[List.foldl_cons,List.map_cons,List.sum_cons];rw[N7 r];omega
theorem W8:∀ (cl:z4') (a b:Int),rh cl->a<=b->(cl.map (j_ a b)).sum<=b - a
 | [],a,b,_,h=>by grind
 | s::r,a,b,⟨h1,h2,h3⟩,h=>by
  simp only[List.map_cons,List.sum_cons];by_cases ab:s.2+1<=b
  ·have aH:=W8 r (max a (s.2+1)) b h3 (by omega);have e:r.map (j_ a b)=r.map (j_ (max a (s.2+1)) b):=by
    refine List.map_congr_left λt aG=>?_;have:=h2 t aG;unfold j_;omega
   rw[e];have:j_ a b s<=max a (s.2+1) - a:=by unfold j_;omega
   omega
  ·have e:∀ l:z4',(∀ t∈l,b<=t.1)->(l.map (j_ a b)).sum=0:=by
    intro l;induction l with
    | nil=>simp
    | cons t l aH=>
     intro ai;simp only[List.map_cons,List.sum_cons];rw[alG (ai t (by simp)),aH λx hx=>ai x (by grind)];rfl
   rw[e r λt aG=>by grind];unfold j_;omega
theorem W9:∀ (cl:z4'),(∀ i,(h:i+1<cl.length)->cl[i].2<cl[i+1].1)->(∀ s∈cl,s.1<=s.2)->rh cl
 | [],_,_=>trivial
 | s::r,h,h2=>by
  have G:rh r:=W9 r (λi E=>by have:=h (i+1) (by grind);grind) λt aG=>h2 t (by grind);refine⟨h2 s (by simp),?_,G⟩;cases r with
  | nil=>simp
  | cons t r=>
   have h0:=h 0 (by simp);simp at h0;intro u hu;rcases List.mem_cons.1 hu with rfl | hu
   ·exact h0
   ·have:=G.2.1 u hu;grind
theorem gH.alH{c:aQ}(h:gH c):rh c.2.2.2.1:=by
 have hc:=h.ih;unfold Al at hc;rw[List.all_eq_true]at hc;refine W9 _ (λi E=>?_) λs hs=>(h.N6.2 s hs).2.1;have:=hc (i+1) (by grind);unfold iC at this;grind
theorem alI{cl:z4'}{a b:Int}(h:rh cl)(vC:a<=b):0<=lO cl a b:=by
 unfold lO;rw[N7];have:=W8 cl a b h vC;omega
theorem W_:∀ (cl:z4') (a b:Int),0<=(cl.map (j_ a b)).sum
 | [],_,_=>by simp
 | s::r,a,b=>by
  simp only[List.map_cons,List.sum_cons];have:=W_ r a b;have:0<=j_ a b s:=by unfold j_;omega
  omega
theorem alJ{cl:z4'}{a b:Int}:lO cl a b<=b - a:=by
 unfold lO;rw[N7];have:=W_ cl a b;omega
theorem alK{cl:z4'}{iU:Int}{l:List bj}{m:Int}(h:DR cl iU l=some m):∃ i,∃ E:i+1<l.length,l[i].1.1=iU/\dQ l[i].1=1/\m=lO cl l[i].2 l[i+1].2:=by
 unfold DR at h;rw[Option.map_eq_some_iff]at h;obtain⟨p,hp,rfl⟩:=h;have h2:=List.find?_some hp;obtain⟨i,E,rfl⟩:=List.mem_iff_getElem.1 (List.mem_of_find?_eq_some hp);obtain⟨df,e⟩:=alF E;grind
theorem W'{c:aQ}(aA:gH c){w:z1'}(h2:po c w){iU m:Int}(h:jI c w iU=some m):0<=m/\m<=11000:=by
 unfold jI at h;obtain⟨u,_,hu⟩:=List.exists_of_findSome?_eq_some h;obtain⟨i,E,_,_,rfl⟩:=alK hu;have hp:=W7 aA h2 E;have an:=alI aA.alH hp.2.2.1;have h3:=DS aA h2 (Ax (List.getElem_mem (by omega:i<(gI c w u).length)));have aR:=DS aA h2 (Ax (List.getElem_mem E));have bw:=@alJ c.2.2.2.1 (gI c w u)[i].2 (gI c w u)[i+1].2;grind
def HB(c:aQ)(w:z1')(alL:Int):Int:=(e' c).foldl (λn s=>if (dQ s=1/\iB s=alL)/\(jI c w (k9 s)).isSome=true then n+la c.2.2.2.2 ((jI c w (k9 s)).getD 0) else n) 0
def Ay(c:aQ)(iU:Int):Bool:=(e' c).any λs=>k9 s == iU&&dQ s == 1
def sC(c:aQ)(w:z1'):Bool:=(List.range w.length).all λi=>bM (w.getD i 0) (c.1.getD i (0,0)).1 (c.1.getD i (0,0)).2
def iE(c:aQ)(w:z1'):Bool:=decide (w.length=c.1.length)&&sC c w&&(dJ 0 9).all λu=>ed (bP c w u)
theorem Xa{c:aQ}(aA:gH c){w:z1'}(ai:w.length=c.1.length)(h:sC c w=true):po c w:=by
 refine⟨ai,λn az=>?_⟩;obtain⟨i,E,rfl⟩:=List.mem_iff_getElem.1 az;unfold sC at h;rw[List.all_eq_true]at h;have h1:=h i (by grind);rw[sA E,sA (by omega:i<c.1.length),oA]at h1;have:=aA.clk _ (List.getElem_mem (by omega:i<c.1.length));omega
def j':z4'->Nat
 | []=>1
 | s::r=>(s.2 - s.1+1).toNat*j' r
def mR(c:aQ):z4'->z1'->List (z1')
 | [],w=>if iE c w=true then [w] else []
 | s::r,w=>(dJ s.1 s.2).flatMap λn=>mR c r (w++[n])
theorem N8{aj β:Type}(f:aj->List β)(k:Nat):∀ (l:List aj),(∀ x∈l,(f x).length<=k)->(l.flatMap f).length<=l.length*k
 | [],_=>by simp
 | x::l,h=>by
  simp only[List.flatMap_cons,List.length_append,List.length_cons];have:=N8 f k l λy aM=>h y (by grind);grind
theorem N9(c:aQ):∀ (r:z4') (w:z1'),(mR c r w).length<=j' r
 | [],w=>by unfold mR j';grind
 | s::r,w=>by
  unfold mR j';have:=N8 (λn=>mR c r (w++[n])) (j' r) (dJ s.1 s.2) λn _=>N9 c r _;rw[sk]at this;omega
theorem Xb{aj β:Type}(f:aj->List β):∀ (l:List aj) (b:List β),l.foldl (λb x=>b++f x) b=b++l.flatMap f
 | [],b=>by simp
 | x::l,b=>by simp only[List.foldl_cons,List.flatMap_cons];rw[Xb f l,List.append_assoc]
abbrev cw(c:aQ):List (z1'):=mR c c.1 []
def alM(c:aQ):Prop:=cu c=0->j' c.1<=60
def gA(c:aQ):Prop:=akP c/\alM c
theorem gA.gv{c:aQ}(h:gA c):iF c:=by
 obtain⟨⟨h1,h2,h3,aR⟩,_⟩:=h;exact⟨by omega,by omega,by omega,by omega⟩
def cW(c:aQ)(b:Bool):List (z1')×Int:=if cu c≠0 then ([],cu c) else if b=false then ([],1) else if cw c=[] then ([],3) else (cw c,0)
theorem N_(c:aQ):∀ (r:z4') (w x:z1'),x∈mR c r w->iE c x=true
 | [],w,x,h=>by
  unfold mR at h;grind
 | s::r,w,x,h=>by
  unfold mR at h;rw[List.mem_flatMap]at h;obtain⟨n,_,az⟩:=h;exact N_ c r _ x az
theorem DT{c:aQ}(h:cu c=0){w:z1'}(hw:iE c w=true):po c w:=by
 unfold iE at hw;simp only[Bool.and_eq_true,decide_eq_true_eq]at hw;exact Xa (oC h) hw.1.1 hw.1.2
theorem HC{c:aQ}{w:z1'}(hw:iE c w=true){u:Int}(hu:0<=u/\u<=9):ed (bP c w u)=true:=by
 unfold iE at hw;simp only[Bool.and_eq_true,List.all_eq_true]at hw;exact hw.2 u (sn.2 hu)
theorem alN{c:aQ}{b:Bool}{w:z1'}(h:w∈(cW c b).1):cu c=0/\w∈cw c/\iE c w=true/\po c w:=by
 unfold cW at h;split at h
 ·grind
 ·rename_i hc;have hc:cu c=0:=by omega
  split at h
  ·grind
  ·split at h
   ·grind
   ·have:=N_ c _ _ _ h;exact⟨hc,h,this,DT hc this⟩
def HD:Option (Int×Int)->Int->Int×Int
 | none,n=>(n,n)
 | some s,n=>(min s.1 n,max s.2 n)
def xZ(l:z1'):Option (Int×Int):=l.foldl (λo n=>some (HD o n)) none
def ue(l:z1'):Int×Int:=(xZ l).getD (0,0)
theorem alO(a b c:Int):bX.sh (a,b,c)=M.pure (bM a b c):=rfl
def lb(c:aQ)(iU:Int):z1'×Int:=if (cW c (Ay c iU)).2≠0 then ([],(cW c (Ay c iU)).2) else if (cW c (Ay c iU)).1.filterMap (λw=>jI c w iU)=[] then ([],3) else ((cW c (Ay c iU)).1.filterMap (λw=>jI c w iU),0)
def HE(c:aQ)(n:Int):(Int×Int)×Int:=(ue (lb c n).1,(lb c n).2)
abbrev HF:aJ:=⟨.aw ji tI,.aw mi tI,λx=>gA x.1,λx=>HE x.1 x.2⟩
def HG(c:aQ)(n:Int):(Int×Int)×Int:=(ue ((lb c n).1.map λm=>la c.2.2.2.2 m),(lb c n).2)
abbrev HH:aJ:=⟨.aw ji tI,.aw mi tI,λx=>gA x.1,λx=>HG x.1 x.2⟩
def HI(c:aQ)(g:Int):(Int×Int)×Int:=(ue ((cW c (bM g 0 99)).1.map λw=>HB c w g),(cW c (bM g 0 99)).2)
abbrev HJ:aJ:=⟨.aw ji tI,.aw mi tI,λx=>gA x.1,λx=>HI x.1 x.2⟩
def HK(c:aQ)(t:Int):(Int×Int)×Int:=(ue ((cW c (bM t 0 9999)).1.map λw=>HA c w t*c.2.2.2.2.2.2.2.2.2.2),(cW c (bM t 0 9999)).2)
abbrev HL:aJ:=⟨.aw ji tI,.aw mi tI,λx=>gA x.1,λx=>HK x.1 x.2⟩
def vH(u t:Int):Bool:=bM u 0 9&&bM t 0 9999
def N'(c:aQ)(u t:Int):z1':=(cW c (vH u t)).1.map λw=>(mQ (gI c w u) t).1
def ri(c:aQ)(u t:Int):z1'×Int:=((dJ (-1) 99).filter λg=>(N' c u t).contains g,(cW c (vH u t)).2)
abbrev HM:aJ:=⟨.aw ji (.aw tI tI),.aw fm tI,λx=>gA x.1,λx=>ri x.1 x.2.1 x.2.2⟩
def DU(c:aQ)(w:z1')(u t:Int):Bool:=decide ((mQ (gI c w u) t).1>=0)&&decide (lO c.2.2.2.1 (mQ (gI c w u) t).2 t>=c.2.2.2.2.2.2.2.2.1)
def oD(c:aQ)(l:List (z1'))(u t:Int):Nat:=(l.filter λw=>DU c w u t).length
def sD(c:aQ)(t:Int):z1'×z1'×Int:=
 if (cW c (bM t 0 9999)).2≠0 then ([],[],(cW c (bM t 0 9999)).2)
 else ((dJ 0 9).filter (λu=>decide (oD c (cW c (bM t 0 9999)).1 u t=(cW c (bM t 0 9999)).1.length)),(dJ 0 9).filter (λu=>decide (oD c (cW c (bM t 0 9999)).1 u t > 0)),0)
abbrev HN:aJ:=⟨.aw ji tI,.aw fm (.aw fm tI),λx=>gA x.1,λx=>sD x.1 x.2⟩
theorem Oa:∀ (l:List bj) (t:Int) (b:Int×Int),(∀ e∈l,(0<=iB e.1))->(l.foldl (λb e=>if e.2<=t then (if dQ e.1=2 then (-1,e.2) else (iB e.1,e.2)) else b) b=b\/∃ e∈l,e.2<=t/\l.foldl (λb e=>if e.2<=t then (if dQ e.1=2 then (-1,e.2) else (iB e.1,e.2)) else b) b=(if dQ e.1=2 then (-1,e.2) else (iB e.1,e.2)))
 | [],t,b,_=>.inl rfl
 | x::l,t,b,h=>by
  simp only[List.foldl_cons];by_cases hx:x.2<=t
  ·rw[if_pos hx];rcases Oa l t (if dQ x.1=2 then (-1,x.2) else (iB x.1,x.2)) λe he=>h e (by grind) with h1 | ⟨e,he,h1,h2⟩
   ·exact .inr ⟨x,by simp,hx,h1⟩
   ·exact .inr ⟨e,by simp[he],h1,h2⟩
  ·rw[if_neg hx];rcases Oa l t b λe he=>h e (by grind) with h1 | ⟨e,he,h1,h2⟩
   ·exact .inl h1
   ·exact .inr ⟨e,by simp[he],h1,h2⟩
theorem alP{c:aQ}(aA:gH c){w:z1'}(h2:po c w){u t:Int}(aG:t<=9999)(h:(mQ (gI c w u) t).1>=0):Av (c,(mQ (gI c w u) t).2,t):=by
 rcases Oa (gI c w u) t (-1,0) (λe he=>((As.1 (aA.Au (DP (Ax he)).1)).2.2.2.2.1).1) with h1 | ⟨e,he,h1,h3⟩
 ·unfold mQ at h;grind
 ·have:=DS aA h2 (Ax he);have e2:(mQ (gI c w u) t).2=e.2:=by
   unfold mQ;grind
  exact⟨aA.N6,by grind,by grind,show t<=11000 by omega⟩
abbrev kr(z:gU):aQ:=(z.1,z.2.1,z.2.2.1,z.2.2.2.1,z.2.2.2.2.1,z.cK,z.e8,z.gy,z.ib,z.jF,z.kI)
abbrev Ob(z:gU):List aU:=z.hz
abbrev Xc(z:gU):List (Option du):=z.mO
abbrev DV(c:aQ)(l:List aU)(t:List (Option du)):gU:=(c.1,c.2.1,c.2.2.1,c.2.2.2.1,c.2.2.2.2.1,c.2.2.2.2.2.1,c.2.2.2.2.2.2.1,c.2.2.2.2.2.2.2.1,c.2.2.2.2.2.2.2.2.1,c.2.2.2.2.2.2.2.2.2.1,c.2.2.2.2.2.2.2.2.2.2,l,t,())
def uf(l:List aU)(w:z1')(u:Int):List bj:=(l.filter λs=>decide (tZ s=u)).map λs=>(s,xT s+w.getD (ph s).toNat 0)
theorem alQ{l:List aU}{w:z1'}{i:Nat}(h:i<l.length)(u:Int):uf (l.take (i+1)) w u=if l[i].2.2.2.2.1=u then uf (l.take i) w u++[(l[i],xT l[i]+w.getD (ph l[i]).toNat 0)] else uf (l.take i) w u:=by
 unfold uf;rw[List.take_add_one,List.getElem?_eq_getElem h,Option.toList_some,List.filter_append,List.map_append];grind
theorem Xd(l:List aU)(w:z1')(u:Int):(uf l w u).length<=l.length:=by
 unfold uf;grind
abbrev mS(c:aQ)(w:z1'):List (List bj):=[bP c w 0,bP c w 1,bP c w 2,bP c w 3,bP c w 4,bP c w 5,bP c w 6,bP c w 7,bP c w 8,bP c w 9]
def sE(c:aQ)(w:z1'):Bool:=(dJ 0 9).all λu=>ed (bP c w u)
theorem alR(c:aQ)(w:z1'):sE c w=(ed (bP c w 0)&&(ed (bP c w 1)&&(ed (bP c w 2)&&(ed (bP c w 3)&&(ed (bP c w 4)&&(ed (bP c w 5)&&(ed (bP c w 6)&&(ed (bP c w 7)&&(ed (bP c w 8)&&ed (bP c w 9)))))))))):=by
 unfold sE;rw[show dJ 0 9=[0,1,2,3,4,5,6,7,8,9] from by decide];simp
abbrev alS(x:z1'×gU):Prop:=cu (kr x.2)=0/\po (kr x.2) x.1/\Ob x.2=e' (kr x.2)
def ug(x:z1'×gU):M (Option du×Bool×gU):=M.dv (alS x) (if sE (kr x.2) x.1=true then (some (x.1,mS (kr x.2) x.1),true,x.2) else (none,false,x.2))
theorem alT{τ aF:Type}{body:Int×Int×Int×τ->M (aa (Int×Int×Int×τ) aF)}(l:List bj){a n:Int}{z:τ}(bad sF:aF)
  (ab:∀ i,i<l.length->body (a,n,(i:Int),z)=M.pure (if (!qi l i)=true then .done bad else .next (a,n,((i+1:Nat):Int),z)))
  (he:body (a,n,(l.length:Int),z)=M.pure (.done sF)):M.loop body (a,n,0,z)=M.pure (if ed l=true then sF else bad):=by
 rw[M.dh (List.range l.length) (λi (_:Unit)=>(a,n,(i:Int),z)) (λi b=>if (!qi l i)=true then .done bad else .next b) (λ_=>sF) () ?_ ?_ ?_]
 ·rw[j7 (q:=qi l) _ _ (λ_=>rfl)];rfl
 ·rfl
 ·intro i E b;have E:i<l.length:=by grind
  rw[ab i E,List.getElem_range];cases qi l i<;>rfl
 grind
theorem Xe{X:Type}{l:List bj}(ai:l.length<=12){i:Nat}(E:i<l.length){k:Int}(ao:k=1+((i % 2:Nat):Int))(aI B:M X):NS l l[i] i k aI B=if (!qi l i)=true then aI else B:=by
 unfold NS;have zi:=alu l i;rw[Bool.or_comm,sA E]at zi;have e1:(decide (l[i].1.2.2.2.1≠k)||decide ((i:Int) > 0)&&decide (l[i].2=(List.getD l (Int.toNat (IntKind.wrap .i64 ((i:Int) - 1))) ((0,0,0,0,0,0),0)).2))=!qi l i:=by
  rw[<-zi,ao];rcases Nat.eq_zero_or_pos i with h0 | h0
  ·simp_all
  ·rw[bn (n:=(i:Int) - 1) (by omega) (by omega),show ((i:Int) - 1).toNat=i - 1 from by omega]
 rw[e1];have bw:decide ((i:Int) > 0)=true->(0<=IntKind.wrap .i64 ((i:Int) - 1)/\IntKind.wrap .i64 ((i:Int) - 1)<Int.ofNat (List.length l)):=λh=>by
  have h:=of_decide_eq_true h;rw[bn (n:=(i:Int) - 1) (by omega) (by omega),bG];omega
 simp_all
theorem alU{l:List bj}(h:l.length<=12):Ai (lN.sh,l,())=M.pure (e_ hL l,()):=M.bE ⟨h,rfl⟩ _
theorem alV{l:List aU}{w:z1'}{c:aQ}(ai:l.length<=12)(hs:∀ s∈l,k_ c.1.length s=true)(hw:po c w){i:Nat}(E:i<l.length):0<=l[i].2.2.2.2.1/\l[i].2.2.2.2.1<=9/\(0<=l[i].2.1/\l[i].2.1<(w.length:Int))/\IntKind.wrap .i64 (l[i].2.2.1+w.getD l[i].2.1.toNat 0)=l[i].2.2.1+w.getD l[i].2.1.toNat 0:=by
 have h:=As.1 (hs _ (List.getElem_mem E));have h1:ph l[i]<(w.length:Int):=by rw[hw.1];omega
 have h2:=hw.2 _ (xL (d:=0) h.2.1.1 h1);have h3:=h.2.2.1;have aR:=h.2.2.2.1;exact⟨aR.1,aR.2,⟨h.2.1.1,h1⟩,bn (by grind) (by grind)⟩
abbrev nO(f:Nat->List bj)(c:gU):k8:=(f 0,f 1,f 2,f 3,f 4,f 5,f 6,f 7,f 8,f 9,c)
theorem Oc{f g:Nat->List bj}(h:∀ u,u<10->f u=g u)(c:gU):nO f c=nO g c:=by
 simp only[nO,h 0 (by decide),h 1 (by decide),h 2 (by decide),h 3 (by decide),h 4 (by decide),h 5 (by decide),h 6 (by decide),h 7 (by decide),h 8 (by decide),h 9 (by decide)]
theorem Od(f:Nat->List bj)(c:gU):∀ k,k<10->mh k (nO f c)=f k
 | 0,_ | 1,_ | 2,_ | 3,_ | 4,_ | 5,_ | 6,_ | 7,_ | 8,_ | 9,_=>rfl
 | k+10,h=>by omega
theorem Xf(f:Nat->List bj)(c:gU)(v:List bj):∀ k,k<10->Hk k v (nO f c)=nO (λj=>if j=k then v else f j) c
 | 0,_ | 1,_ | 2,_ | 3,_ | 4,_ | 5,_ | 6,_ | 7,_ | 8,_ | 9,_=>rfl
 | k+10,h=>by omega
theorem Xg{X:Type}(f:Nat->M X){v:Int}{u:Nat}(h:v=(u:Int)):∀ {n:Nat},u<=n->Hm f v n=f u
 | 0,hu=>by
  obtain rfl:u=0:=by omega
  rfl
 | n+1,hu=>by
  unfold Hm;simp only[hX,bG,h];by_cases e:u=n+1
  ·rw[if_pos (by omega),e]
  ·rw[if_neg (by omega)];exact Xg f rfl (by omega)
theorem alW{c:aQ}{w:z1'}(j2:∀ u,(bP c w u).length<=12){z:gU}{g:Nat->List bj}{k:Nat}(ao:k<10)(aA:g k=bP c w k) :
  M.loop (Hl k) (Int.ofNat k,Int.ofNat (List.length (bP c w k)),0,w,nO g z)=M.pure (if ed (bP c w k)=true then .next (Int.ofNat k,w,nO g z) else .done (.done (none,false,z))):=by
 have e1:mh k (nO g z)=bP c w k:=(Od g z k ao).trans aA;refine alT (bP c w k) _ _ (λi E=>?_) ?_
 ·have hw:=bn (n:=(i:Int)+1) (by omega) (by have:=j2 k;omega);unfold Hl;simp only[bG,cC E,if_true,e1,ct E,cV E,M.be];rcases Nat.mod_two_eq_zero_or_one i with an | an
  ·have au:decide (Int.tmod (i:Int) 2=1)=false:=by rw[W2,an];rfl
   simp only[au,Bool.false_eq_true,if_false,M.ES,M.aE,M.bK];rw[M.bk (by decide),e1];refine (Xe (j2 k) E (by rw[an];rfl) _ _).trans ?_;simp only[b2,hw];cases qi (bP c w k) i<;>rfl
  ·have au:decide (Int.tmod (i:Int) 2=1)=true:=by rw[W2,an];rfl
   simp only[au,if_true,M.ES,M.aE,M.bK];rw[M.bk (by decide),e1];refine (Xe (j2 k) E (by rw[an];rfl) _ _).trans ?_;simp only[b2,hw];cases qi (bP c w k) i<;>rfl
 ·unfold Hl;simp
theorem Xh{c:aQ}{w:z1'}(hlen:∀ u,(oB c w u).length<=12)(j2:∀ u,(bP c w u).length<=12){z:gU}:∀ n k,k+n=10->
  DG Ai lN.sh n k (w,nO (λu=>if u<k then bP c w u else oB c w u) z)=M.pure (if ((List.range' k n).all λu=>ed (bP c w u))=true then .next (w,nO (λu=>bP c w u) z) else .done (none,false,z))
 | 0,k,h=>by
  unfold DG;rw[Oc (g:=λu=>bP c w u) λu hu=>if_pos (by omega)];rfl
 | n+1,k,h=>by
  have ao:k<10:=by omega
  have hs:Ai (lN.sh,oB c w k,())=M.pure (bP c w k,()):=alU (hlen k);have hw:=bn (n:=(k:Int)+1) (by omega) (by omega);have e2:Hk k (bP c w k) (nO (λu=>if u<k then bP c w u else oB c w u) z)=nO (λu=>if u<k+1 then bP c w u else oB c w u) z:=by
   rw[Xf _ _ _ _ ao];exact Oc (λu hu=>by
    by_cases e:u=k
    ·subst e;simp
    ·by_cases e2:u<k
     ·simp[e,e2,show u<k+1 by omega]
     ·simp[e,e2,show ¬u<k+1 by omega]) _
  unfold DG;dsimp only;rw[M.bk (by simp only[bG];omega),Od _ _ _ ao,if_neg (Nat.lt_irrefl k),hs,M.aE];simp only[e2];rw[alW j2 ao (if_pos (Nat.lt_succ_self k)),M.aE,List.range'_succ,List.all_cons];cases ed (bP c w k) with
  | false=>rfl
  | true=>
   simp only[if_true,Bool.true_and,M.bK];rw[M.bk (by simp only[bG,b2,hw];omega)];exact Xh hlen j2 n (k+1) (by omega)
theorem Oe(x):M.le (Ww fcClone.sh Ai lN.sh x) (ug x):=M.bg λh=>by
 obtain⟨w,z⟩:=x;obtain⟨h1,h2,h3⟩:=h;change cu (kr z)=0 at h1;change po (kr z) w at h2;change z.hz=e' (kr z) at h3;show _=M.pure (if sE (kr z) w=true then (some (w,mS (kr z) w),true,z) else (none,false,z));generalize tL:kr z=c at *
 have aA:=oC h1;have ai:=aA.N5;have oR:∀ s∈e' c,k_ c.1.length s=true:=λs hs=>aA.Au hs;have az:=aA.dH;have hlen:∀ u,(oB c w u).length<=12:=λu=>Nat.le_trans (Xd (e' c) w u) ai;have j2:∀ u,(bP c w u).length<=12:=λu=>DO aA w u;have pq:∀ u,uf z.hz w u=oB c w u:=λu=>by rw[h3];rfl
 rw[<-h3]at ai oR;clear h3;unfold Ww;rw[show fcClone.sh w=M.pure w from M.bE (show w.length<=3000000 by have:=h2.1;omega) _];simp only[M.aE,M.bK,M.be];refine (congrArg (λm=>M.bind m _) (M.dh z.hz (λi (_:Unit)=>(w,z.hz,(z.hz.length:Int),(i:Int),w,nO (λu=>uf (z.hz.take i) w u) z)) (λ_ b=>.next b) (λ_=>.next (w,nO (λu=>oB c w u) z)) () ?_ ?_ ?_)).trans ?_
 ·simp only[bG,List.take_zero];rfl
 ·intro i E b;obtain⟨aO,aP,bA,gi⟩:=alV (c:=c) ai oR h2 E;have hw:=bn (n:=(i:Int)+1) (by omega) (by omega);have iq:∀ u,bT (Add.add (uf (z.hz.take i) w u).length (Add.add 0 1)):=λu=>gp (by have:=Xd (z.hz.take i) w u;rw[List.length_take]at this;simp only[hX];omega);obtain⟨u,hu⟩:∃ u:Nat,z.hz[i].2.2.2.2.1=(u:Int):=⟨z.hz[i].2.2.2.2.1.toNat,by omega⟩
  have alX:u<=9:=by omega
  simp only[bG,cC E,if_true,cV E,ct E,M.be];rw[M.bk (show (0<=z.hz[i].2.2.2.2.1/\z.hz[i].2.2.2.2.1<((10:Nat):Int)) from⟨aO,by omega⟩),Xg _ hu alX];unfold Wv;simp only[cV E,bG,Od _ _ u (show u<10 by omega),Xf _ _ _ u (show u<10 by omega)];rw[M.bk trivial,M.bk (by omega),M.bk bA,M.bk (iq _),M.bk trivial,M.bk (by omega),M.aE,M.bK];simp only[b2,hw,gi];refine congrArg (λq=>M.pure (aa.next (w,z.hz,(z.hz.length:Int),((i:Int)+1),w,q))) ?_;refine Oc (λj aC=>?_) _;rw[alQ E,hu];by_cases e:j=u
  ·subst e;rw[if_pos rfl,if_pos rfl,<-hu]
  ·rw[if_neg e,if_neg (by omega)]
 ·intro b;simp only[List.take_length,pq];simp
 ·rw[dP,M.aE,M.bK];have e0:=Xh (c:=c) (w:=w) hlen j2 (z:=z) 10 0 rfl;rw[M.bk (by decide)];rw[show (λu:Nat=>if u<0 then bP c w u else oB c w u)=λu:Nat=>oB c w u from funext λu=>if_neg (Nat.not_lt_zero u)]at e0;rw[e0,M.aE];have e1:((List.range' 0 10).all λu=>ed (bP c w u))=sE c w:=by
   rw[alR];simp[List.range']
  rw[e1];cases sE c w<;>rfl
abbrev ie(c:aQ)(w:z1'):Option du:=some (w,mS c w)
abbrev alY(f:Nat)(x:z1'×gU):Prop:=cu (kr x.2)=0/\Ob x.2=e' (kr x.2)/\x.1.length<=(kr x.2).1.length/\(kr x.2).1.length<x.1.length+f/\sC (kr x.2) x.1=true/\(Xc x.2).length+j' ((kr x.2).1.drop x.1.length)<=60
def x0(f:Nat)(x:z1'×gU):M gU:=M.dv (alY f x) (DV (kr x.2) (Ob x.2) (Xc x.2++(mR (kr x.2) ((kr x.2).1.drop x.1.length) x.1).map (ie (kr x.2))))
theorem alZ(x):¬(x0 0 x).bY:=λh=>by have h1:=h.2.2.1;have h2:=h.2.2.2.1;omega
theorem al0{c:aQ}{w:z1'}{n:Int}:sC c (w++[n])=(sC c w&&bM n (c.1.getD w.length (0,0)).1 (c.1.getD w.length (0,0)).2):=by
 unfold sC;grind
theorem al1{c:aQ}{w:z1'}(ai:w.length=c.1.length)(h:sC c w=true):iE c w=sE c w:=by
 unfold iE sE;grind
set_option maxHeartbeats 1000000 in
theorem al2(f:Nat)(x):M.le (Wy (x0 f) ug x) (x0 (f+1) x):=M.bg λh=>by
 obtain⟨w,a0,bV,a2,a3,a4,a5,f',ga,hM,a9,hh,l,t,u⟩:=x;obtain⟨h1,h2,h3,aR,bw,cZ⟩:=h;change cu (a0,bV,a2,a3,a4,a5,f',ga,hM,a9,hh)=0 at h1;change l=e' (a0,bV,a2,a3,a4,a5,f',ga,hM,a9,hh) at h2;change w.length<=a0.length at h3;change a0.length<w.length+(f+1) at aR;change sC (a0,bV,a2,a3,a4,a5,f',ga,hM,a9,hh) w=true at bw;change t.length+j' (a0.drop w.length)<=60 at cZ;show _=M.pure (DV (a0,bV,a2,a3,a4,a5,f',ga,hM,a9,hh) l (t++(mR (a0,bV,a2,a3,a4,a5,f',ga,hM,a9,hh) (a0.drop w.length) w).map (ie (a0,bV,a2,a3,a4,a5,f',ga,hM,a9,hh))));have aA:=oC h1;have az:a0.length<=3:=aA.dH;unfold Wy;simp only[Prod.cK,Prod.e8,Prod.gy,Prod.ib,Prod.jF,Prod.kI,Prod.hz,Prod.mO,Prod.pg,Prod.sq,Prod.xQ,Prod.Dz,Prod.NC,Prod.ND,Prod.NF,bG,M.be];by_cases ai:w.length=a0.length
 ·rw[if_pos (by simp only[decide_eq_true_eq];omega)];have al3:po (a0,bV,a2,a3,a4,a5,f',ga,hM,a9,hh) w:=Xa aA ai bw;have ag:ug (w,a0,bV,a2,a3,a4,a5,f',ga,hM,a9,hh,l,t,())=M.pure (if sE (a0,bV,a2,a3,a4,a5,f',ga,hM,a9,hh) w=true then (ie (a0,bV,a2,a3,a4,a5,f',ga,hM,a9,hh) w,true,a0,bV,a2,a3,a4,a5,f',ga,hM,a9,hh,l,t,()) else (none,false,a0,bV,a2,a3,a4,a5,f',ga,hM,a9,hh,l,t,())):=M.bE ⟨h1,al3,h2⟩ _;rw[ag,M.aE,ai,List.drop_length];unfold mR;rw[al1 ai bw];cases ao:sE (a0,bV,a2,a3,a4,a5,f',ga,hM,a9,hh) w with
  | true=>
   rw[if_pos rfl,if_pos rfl,M.bk (gp (by simp only[hX];omega)),M.aE,M.bK];rfl
  | false=>
   simp only[Bool.false_eq_true,if_false,M.aE,M.bK,List.map_nil,List.append_nil]
 ·have b4:w.length<a0.length:=by omega
  rw[if_neg (by simp only[decide_eq_true_eq];omega),M.bk (show (0:Int)<=(w.length:Int)/\(w.length:Int)<(a0.length:Int) by omega)];rw[List.drop_eq_getElem_cons b4]at cZ ⊢;simp only[Int.toNat_natCast,sA b4];have hs:=aA.clk _ (List.getElem_mem b4);change -30<=a0[w.length].1/\a0[w.length].1<=a0[w.length].2/\a0[w.length].2<=30 at hs;have mT:a0.getD w.length (0,0)=a0[w.length]:=sA b4;generalize a0[w.length]=s at *
  unfold j' at cZ;have DW:∀ n (ts:List (Option du)),s.1<=n->n<=s.2->ts.length+j' (a0.drop (w.length+1))<=60->x0 f (w++[n],a0,bV,a2,a3,a4,a5,f',ga,hM,a9,hh,l,ts,())=M.pure (DV (a0,bV,a2,a3,a4,a5,f',ga,hM,a9,hh) l (ts++(mR (a0,bV,a2,a3,a4,a5,f',ga,hM,a9,hh) (a0.drop (w.length+1)) (w++[n])).map (ie (a0,bV,a2,a3,a4,a5,f',ga,hM,a9,hh)))):=by
   intro n ts aO aP bA;refine (M.bE ⟨h1,h2,?_,?_,?_,?_⟩ _).trans (congrArg M.pure ?_)
   ·show DV (a0,bV,a2,a3,a4,a5,f',ga,hM,a9,hh) l (ts++(mR (a0,bV,a2,a3,a4,a5,f',ga,hM,a9,hh) (a0.drop (w++[n]).length) (w++[n])).map (ie (a0,bV,a2,a3,a4,a5,f',ga,hM,a9,hh)))=_;rw[List.length_append,List.length_singleton]
   ·show (w++[n]).length<=a0.length;simp;omega
   ·show a0.length<(w++[n]).length+f;simp;omega
   ·show sC (a0,bV,a2,a3,a4,a5,f',ga,hM,a9,hh) (w++[n])=true;rw[al0,bw];show (true&&bM n (a0.getD w.length (0,0)).1 (a0.getD w.length (0,0)).2)=true;rw[mT,Bool.true_and];exact oA.2 ⟨aO,aP⟩
   ·show ts.length+j' (a0.drop (w++[n]).length)<=60;rw[List.length_append,List.length_singleton];exact bA
  rw[M.fZ (dJ s.1 s.2) (λi (ts:List (Option du))=>(w,(w.length:Int),s.1+(i:Int),a0,bV,a2,a3,a4,a5,f',ga,hM,a9,hh,l,ts,())) (λn ts=>.next (ts++(mR (a0,bV,a2,a3,a4,a5,f',ga,hM,a9,hh) (a0.drop (w.length+1)) (w++[n])).map (ie (a0,bV,a2,a3,a4,a5,f',ga,hM,a9,hh)))) (λts=>(a0,bV,a2,a3,a4,a5,f',ga,hM,a9,hh,l,ts,())) (λi ts=>ts.length<=t.length+i*j' (a0.drop (w.length+1))) t ?_ ?_ ?_ ?_]
  ·rw[dP,Xb (f:=λn=>(mR (a0,bV,a2,a3,a4,a5,f',ga,hM,a9,hh) (a0.drop (w.length+1)) (w++[n])).map (ie (a0,bV,a2,a3,a4,a5,f',ga,hM,a9,hh)))];rw[<-List.map_flatMap];rfl
  ·rw[Int.natCast_zero,Int.add_zero]
  ·simp
  ·intro i E ts ag;rw[sk]at E;have hw:=bn (n:=s.1+(i:Int)+1) (by omega) (by omega);have au:decide (s.1+(i:Int)<=s.2)=true:=by simpa using (by omega:s.1+(i:Int)<=s.2)
   have hle:=N9 (a0,bV,a2,a3,a4,a5,f',ga,hM,a9,hh) (a0.drop (w.length+1)) (w++[s.1+(i:Int)]);have al4:ts.length+j' (a0.drop (w.length+1))<=60:=by
    have:(i+1)*j' (a0.drop (w.length+1))<=(s.2 - s.1+1).toNat*j' (a0.drop (w.length+1)):=Nat.mul_le_mul_right _ (by omega);rw[Nat.succ_mul]at this;omega
   refine⟨?_,λaZ cS=>?_⟩
   ·simp only[Int.toNat_natCast,mT,au,if_true,b2,hw,z1,List.take_length];rw[M.bk (by omega),M.bk ⟨by omega,by omega,trivial,by omega⟩,M.bk ⟨by simp only[hX];omega,gp (by simp only[hX];omega)⟩,DW _ ts (by omega) (by omega) al4,M.aE];simp only[aa.gT];rw[show s.1+((i+1:Nat):Int)=s.1+(i:Int)+1 from by omega]
   ·simp only[aa.next.injEq,z1]at cS;subst cS;rw[List.length_append,List.length_map,Nat.succ_mul];omega
  ·intro ts ag;rw[sk];have au:decide (s.1+(((s.2 - s.1+1).toNat:Nat):Int)<=s.2)=false:=by simpa using (by omega:s.2<s.1+(((s.2 - s.1+1).toNat:Nat):Int))
   simp only[Int.toNat_natCast,mT,au,Bool.false_eq_true,if_false,M.aE];rw[M.bk (by omega)]
abbrev uh:aQ:=([],[],[],[],0,0,0,0,0,0,0)
abbrev Az:aJ:=⟨.aw gV (.bq ji),cN,λx=>∃ c:aQ,x.2=some c/\c.2.2.1.length<2 ^ 63,λx=>(x.2.getD uh).2.2.1.contains (k9 x.1)⟩
theorem Of(x):M.le (V' mj.sh x) (Az.sh x):=M.bg λh=>by
 obtain⟨s,o⟩:=x;obtain⟨c,hc,h⟩:=h;change o=some c at hc;subst hc;unfold V';simp only[Option.getD_some];rw[show mj.sh (c.2.2.1,s.1)=M.pure (c.2.2.1.contains s.1) from M.bE h _,M.aE]
abbrev ui(c:aQ):dE:=(c,e' c,(cw c).map (ie c))
def DX(c:aQ)(f:Option dE->M Bool):Bool:=(f (some (c,e' c,[]))).val false
def sG(c:aQ)(b:Bool):Option dE×Int:=if cu c≠0 then (none,cu c) else if b=false then (none,1) else if cw c=[] then (none,3) else (some (ui c),0)
abbrev vI:aJ:=⟨.aw ji (.fn (.bq ss) .bool),.aw (.bq ss) tI,λx=>gA x.1/\(cu x.1=0->∃ b,x.2 (some (x.1,e' x.1,[]))=M.pure b),λx=>sG x.1 (DX x.1 x.2)⟩
theorem al5{c:aQ}(aA:gH c):Hy ((λs=>Az.sh (s,some c)),gG c.2.1,())=M.pure ((0,(e' c).length),e' c++List.replicate ((gG c.2.1).length - (e' c).length) jj,()):=by
 have hv:∀ s,Az.sh (s,some c)=M.pure (c.2.2.1.contains s.1):=λs=>M.bE ⟨c,rfl,by have:=aA.jv;omega⟩ _;have e:((gG c.2.1).filter λs=>!(Az.sh (s,some c)).val false)=e' c:=by
  unfold e';simp_all
 have:=ale c.2.1;refine (M.bE ⟨show (gG c.2.1).length<2 ^ 63 by omega,λs _=>⟨_,hv s⟩⟩ _).trans (congrArg M.pure ?_);grind
set_option maxHeartbeats 1000000 in
theorem al6(x):M.le (VQ gY.sh Hw Hy (x0 5) Az.sh x) (vI.sh x):=M.bg λh=>by
 obtain⟨c,f⟩:=x;obtain⟨h,ar⟩:=h;change gA c at h;change cu c=0->∃ b,f (some (c,e' c,[]))=M.pure b at ar;unfold VQ;show _=M.pure (sG c (DX c f));unfold sG;rw[show gY.sh c=M.pure (cu c) from M.bE h.gv _];simp only[M.aE,decide_eq_true_eq];by_cases hc:cu c=0
 ·simp only[hc,ne_eq,not_true_eq_false,if_false];have aA:=oC hc;obtain⟨b,ab⟩:=ar hc;have h1:=aA.dH;have hid:=Hx aA.iM;rw[show Hw (c.2.1,())=M.pure (true,gG c.2.1,()) from M.bE ⟨hid,(Ap _).2 aA.An⟩ _,M.aE];simp only[M.be];rw[al5 aA,M.aE];have pn:List.drop 0 (List.take (e' c).length (e' c++List.replicate ((gG c.2.1).length - (e' c).length) jj))=e' c:=by
   rw[List.drop_zero,List.take_left]
  simp only[pn];unfold DX;simp only[ab,M.fi,M.aE];cases b with
  | false=>simp
  | true=>
   simp only[Bool.not_true,Bool.false_eq_true,if_false,M.aE,M.bK,reduceCtorEq];simp only[Prod.cK,Prod.e8,Prod.gy,Prod.ib,Prod.jF,Prod.kI,Prod.hz,Prod.mO,Prod.pg,Prod.sq,Prod.xQ,Prod.Dz,Prod.NC,Prod.ND,Prod.NF,pn];have mT:x0 5 ([],c.1,c.2.1,c.2.2.1,c.2.2.2.1,c.2.2.2.2.1,c.2.2.2.2.2.1,c.2.2.2.2.2.2.1,c.2.2.2.2.2.2.2.1,c.2.2.2.2.2.2.2.2.1,c.2.2.2.2.2.2.2.2.2.1,c.2.2.2.2.2.2.2.2.2.2,e' c,[],())=M.pure (DV c (e' c) ((cw c).map (ie c))):=M.bE ⟨hc,rfl,Nat.zero_le _,show c.1.length<0+5 by omega,rfl,show 0+j' c.1<=60 by have:=h.2 hc;omega⟩ _;rw[mT,M.aE];simp only[bG,List.length_map];by_cases aG:cw c=[]
   ·simp[aG]
   ·have:¬((cw c).length:Int)=0:=λe=>aG (List.eq_nil_of_length_eq_zero (by omega));simp only[this,aG,if_false]
 ·simp only[hc,ne_eq,not_false_eq_true,if_true]
def vJ(l:List (Option du))(f:Option du->M (Int×Bool)):Option (Int×Int):=xZ (l.filterMap λt=>if ((f t).val (0,false)).2=true then some ((f t).val (0,false)).1 else none)
abbrev AA:aJ:=⟨.aw (.bq ss) (.fn (.bq xR) (.aw tI .bool)),.aw mi .bool,λx=>∃ b:dE,x.1=some b/\b.2.2.length<=60/\∀ t∈b.2.2,∃ r,x.2 t=M.pure r,λx=>((vJ (x.1.getD (uh,[],[])).2.2 x.2).getD (0,0),(vJ (x.1.getD (uh,[],[])).2.2 x.2).isSome)⟩
theorem Xi{aj β gb:Type}(g:aj->Option β)(h:gb->β->gb):∀ (l:List aj) (b:gb),l.foldl (λb x=>(g x).elim b λy=>h b y) b=(l.filterMap g).foldl h b
 | [],b=>rfl
 | x::l,b=>by
  simp only[List.foldl_cons,List.filterMap_cons];rw[Xi g h l];grind
theorem al7(x):M.le (VZ x) (AA.sh x):=M.bg λh=>by
 obtain⟨o,f⟩:=x;obtain⟨b,ab,ai,ar⟩:=h;change o=some b at ab;subst ab;unfold VZ;show _=M.pure ((vJ b.2.2 f).getD (0,0),(vJ b.2.2 f).isSome);simp only[Option.isSome_some,M.be,Option.getD_some];change b.2.2.length<=60 at ai;change ∀ t∈b.2.2,∃ r,f t=M.pure r at ar;generalize b.2.2=l at *
 rw[M.dh l (λi (o:Option (Int×Int))=>(f,o.isSome,l,(l.length:Int),(i:Int),o.getD (0,0),())) (λt o=>.next ((if ((f t).val (0,false)).2=true then some ((f t).val (0,false)).1 else none).elim o λn=>some (HD o n))) (λo=>.next (o.isSome,o.getD (0,0),())) none ?_ ?_ ?_]
 ·rw[dP,Xi (λt=>if ((f t).val (0,false)).2=true then some ((f t).val (0,false)).1 else none) (λo n=>some (HD o n)),M.aE];rfl
 ·rfl
 ·intro i E o;have hw:=bn (n:=(i:Int)+1) (by omega) (by omega);obtain⟨r,G⟩:=ar _ (List.getElem_mem E);simp only[Prod.cK,bG,cC E,if_true,cV E,ct E,M.be,b2,hw,G,M.aE,M.fi,aa.gT];obtain⟨n,bO⟩:=r;cases bO with
  | false=>simp_all
  | true=>
   cases o with
   | none=>simp only[Bool.not_true,Bool.false_eq_true,if_false,if_true,Option.isSome_none,Bool.not_false,M.aE,M.bK,hw,Option.elim];rfl
   | some s=>
    simp only[Bool.not_true,Bool.false_eq_true,if_false,if_true,Option.isSome_some,M.aE,M.bK,hw,Option.elim,Option.getD_some];rw[W5,alx];rfl
 simp
section
variable {aj:Type}
def Xj(x:Nat×List (Int×aj)×(Nat×(z1'->Prop)×z1'×Bool)×Unit):M ((Nat×(z1'->Prop)×z1'×Bool)×Unit):=
 M.bind (M.pure ()) λy=>M.loop (λ(A:Nat×(Nat×(z1'->Prop)×z1'×Bool)×(Option (Int×aj)×List (Int×aj))×Unit)=>
 M.bind (FT A.2.2.1.2) λy=>if Option.isSome y=true then M.bind (M.ae (Option.isSome (nD A.2.2.1.1 A.2.2.1.2 y)=true) (M.pure ())) λbL
 =>M.bind (M.ae (A.1=A.2.1.1/\A.2.1.2.2.2=false/\∃ (T:z1'),A.2.1.2.1 (A.2.1.2.2.1++Option.getD (Option.map (λx=>x.1) (nD
 A.2.2.1.1 A.2.2.1.2 y)) 0::T)) (M.any λx=>True)) λdq=>if (!dq)=true then M.bind (M.pure ((A.2.1.1,A.2.1.2.1,A.2.1.2.2.1++
 [Option.getD (Option.map (λx=>x.1) (nD A.2.2.1.1 A.2.2.1.2 y)) 0],!dq),())) λr=>M.pure (aa.done r) else M.pure (aa.next (A.1,(A.2.1.1,A.2.1.2.1,A.2.1.2.2.1++[Option.getD (Option.map (λx=>x.1) (nD A.2.2.1.1 A.2.2.1.2 y)) 0],!dq),(nD A.2.2.1.1 A.2.2.1.2 y,Cs A.2.2.1.2 y),())) else M.bind (M.pure (A.2.1,())) λr=>M.pure (aa.done r)) (x.1,x.2.2.1,(none,x.2.1),())
theorem Xk{β:Type}:∀ (l:List β) (i:Nat) (h:i<l.length),(l[i]::l.eraseIdx i).Perm l
 | x::l,0,_=>.refl _
 | x::l,i+1,h=>by
  simp only[List.getElem_cons_succ,List.eraseIdx_cons_succ];exact (List.Perm.swap x _ _).trans ((Xk l i (by grind)).cons x)
theorem Xl(l:Nat)(m:List (Int×aj)):M.b_ (Xj (l,m,(l,jG (some m),[],false),())) λy=>y.1.2.2.2=false->jG (some m) y.1.2.2.1:=by
 unfold Xj;rw[M.aE];refine M.Bs (λA=>∃ p c b5,A=(l,(l,jG (some m),p,false),(c,b5),())/\(m.map (·.1)).Perm (p++b5.map (·.1))) (λA=>A.2.2.1.2.length) ?_ _ ⟨[],none,m,rfl,.refl _⟩;rintro A ⟨p,c,b5,rfl,hp⟩;simp only;rw[M.fJ];refine⟨trivial,λy aM=>?_⟩;cases y with
 | none=>
  have G:b5=[]:=aM;subst G;simp only[Option.isSome_none,Bool.false_eq_true,if_false,M.aE];refine M.dF.2 λ_=>ua.2 (by grind)
 | some i=>
  have E:i<b5.length:=aM;have az:nD c b5 (some i)=some b5[i]:=List.getElem?_eq_getElem E;have G:Cs b5 (some i)=b5.eraseIdx i:=rfl;have DY:(m.map (·.1)).Perm (p++b5[i].1::(b5.eraseIdx i).map (·.1)):=hp.trans (List.Perm.append_left p ((Xk b5 i E).symm.map (·.1)));simp only[Option.isSome_some,if_true,az,G,M.be,M.aE,Option.map_some,Option.getD_some];rw[M.fJ,M.kv];refine⟨⟨trivial,trivial,(b5.eraseIdx i).map (·.1),ua.2 DY⟩,⟨true,trivial⟩,λb _=>?_⟩;cases b with
  | false=>
   simp only[Bool.not_false,if_true,M.aE];exact M.dF.2 λh=>by cases h
  | true=>
   simp only[Bool.not_true,Bool.false_eq_true,if_false];refine M.dF.2 ⟨⟨p++[b5[i].1],some b5[i],b5.eraseIdx i,rfl,by grind⟩,?_⟩;grind
end
theorem al8(l:Nat)(m:z4'):M.b_ (NQ (l,m,(l,jG (some m),[],false),())) λy=>y.1.2.2.2=false->jG (some m) y.1.2.2.1:=Xl l m
theorem al9(l:Nat)(m:List (Int×aU)):M.b_ (NR (l,m,(l,jG (some m),[],false),())) λy=>y.1.2.2.2=false->jG (some m) y.1.2.2.1:=Xl l m
def df(cl:z4'):List bj->List bj
 | a::b::r=>(a.1,lO cl a.2 b.2)::df cl r
 | _=>[]
def DZ(c:aQ)(fD:List (List bj)):Prop:=fD.length=10/\∀ l∈fD,l.length<=12/\∀ i,(h:i+1<l.length)->Av (c,l[i].2,l[i+1].2)
def pt(c:aQ)(fD:List (List bj)):List bj:=fD.flatMap (df c.2.2.2.1)
def sH(x:Option (Option du)×Option (Option dE))(L:List bj):Prop:=∃ t b,x.1=some (some t)/\x.2=some (some b)/\DZ b.1 t.2/\L=pt b.1 t.2
theorem al_{cl:z4'}{l:List bj}{i:Nat}(h:i+1<l.length):df cl (l.drop i)=(l[i].1,lO cl l[i].2 l[i+1].2)::df cl (l.drop (i+2)):=by
 rw[List.drop_eq_getElem_cons (by omega:i<l.length),List.drop_eq_getElem_cons h];rfl
theorem al'{cl:z4'}{l:List bj}{i:Nat}(h:¬i+1<l.length):df cl (l.drop i)=[]:=by
 have:(l.drop i).length<=1:=by grind
 match h:l.drop i with
 | []=>rfl
 | [_]=>rfl
 | _::_::_=>grind
set_option maxHeartbeats 1000000 in
theorem ama(eV:Nat)(t:du)(b:dE)(h:DZ b.1 t.2):M.b_ (Hj vF.sh (eV,some t,some b,(eV,sH (some (some t),some (some b)),[],false),())) λy=>y.1.2.2.2=false->sH (some (some t),some (some b)) y.1.2.2.1:=by
 obtain⟨h1,h2⟩:=h;have GB:∀ L,sH (some (some t),some (some b)) L<->L=pt b.1 t.2:=λL=>⟨λ⟨cD,aZ,e1,e2,_,e⟩=>by cases e1;cases e2;exact e,λe=>⟨t,b,rfl,rfl,⟨h1,h2⟩,e⟩⟩
 generalize sH (some (some t),some (some b))=S at *
 unfold Hj;simp only[Option.isSome_some,M.be,Option.getD_some];refine M.Bs (λA=>∃ (u:Nat),u<=10/\A=(eV,some b,t.2,(u:Int),(eV,S,(t.2.take u).flatMap (df b.1.2.2.2.1),false),())) (λA=>(10 - A.2.2.2.1).toNat) ?_ _ ⟨0,by omega,rfl⟩;rintro A ⟨u,hu,rfl⟩;by_cases Ly:u<10
 ·have au:decide ((u:Int)<10)=true:=by simpa using (by omega:(u:Int)<10)
  have se:u<t.2.length:=by omega
  have amb:=bn (n:=(u:Int)+1) (by omega) (by omega);have an:=List.getElem_mem se;obtain⟨h3,aR⟩:=h2 _ an;simp only[au,if_true,cV se];rw[M.bk (show (0:Int)<=(u:Int)/\(u:Int)<Int.ofNat 10 by rw[bG];omega)];have fo:pt b.1 t.2=(t.2.take u).flatMap (df b.1.2.2.2.1)++(df b.1.2.2.2.1 t.2[u]++(t.2.drop (u+1)).flatMap (df b.1.2.2.2.1)):=by
   unfold pt;conv=>lhs;rw[<-List.take_append_drop u t.2,List.drop_eq_getElem_cons se]
   simp only[List.flatMap_append,List.flatMap_cons]
  generalize amc:t.2[u]=jJ at *
  generalize (t.2.drop (u+1)).flatMap (df b.1.2.2.2.1)=R at *
  generalize jd:(t.2.take u).flatMap (df b.1.2.2.2.1)=P at *
  have amd:(t.2.take (u+1)).flatMap (df b.1.2.2.2.1)=P++df b.1.2.2.2.1 jJ:=by
   rw[List.take_add_one,List.getElem?_eq_getElem se,Option.toList_some,List.flatMap_append,jd,amc];simp
  rw[M.fJ];refine (M.Bs (p:=λz=>match z with | .next z=>z=(eV,some b,t.2,(u:Int),(eV,S,P++df b.1.2.2.2.1 jJ,false),()) | .done z=>(match z with | .next _=>False | .done y=>y.1.2.2.2=true)) (λA=>∃ (i:Nat) (Q:List bj),i<=jJ.length+1/\Q++df b.1.2.2.2.1 (jJ.drop i)=df b.1.2.2.2.1 jJ/\A=(eV,some b,jJ,(i:Int),t.2,(u:Int),(eV,S,P++Q,false),())) (λA=>(20 - A.2.2.2.1).toNat) ?_ _ ⟨0,[],by omega,by simp,by simp⟩).mono λz bb=>?_
  ·rintro A ⟨i,Q,n_,tO,rfl⟩;have hw:=bn (n:=(i:Int)+1) (by omega) (by omega);have gl:=bn (n:=(i:Int)+2) (by omega) (by omega);by_cases E:i+1<jJ.length
   ·have Lq:i<jJ.length:=by omega
    have au:decide ((i:Int)+1<(jJ.length:Int))=true:=by simpa using (by omega:(i:Int)+1<(jJ.length:Int))
    have cp:(0:Int)<=(i:Int)+1/\(i:Int)+1<(jJ.length:Int):=⟨by omega,by omega⟩
    have iD:jJ.getD ((i:Int)+1).toNat ((0,0,0,0,0,0),0)=jJ[i+1]:=by
     rw[show ((i:Int)+1).toNat=i+1 from by omega,sA E]
    have em:vF.sh (b.1,jJ[i].2,jJ[i+1].2)=M.pure (lO b.1.2.2.2.1 jJ[i].2 jJ[i+1].2):=M.bE (aR i E) _;simp only[Prod.cK,Prod.e8,bG,b2,hw,au,if_true,cV Lq,ct Lq,cp,iD,Option.isSome_some,Option.getD_some,em,M.iG,M.fi,and_self,M.be,decide_true];rw[M.fJ,M.kv];have cA:=al_ (cl:=b.1.2.2.2.1) E;refine⟨⟨trivial,trivial,df b.1.2.2.2.1 (jJ.drop (i+2))++R,(GB _).2 ?_⟩,⟨true,trivial⟩,λy _=>?_⟩
    ·rw[fo,<-tO,cA];simp
    ·cases y with
     | false=>
      simp only[Bool.not_false,if_true,M.aE];exact M.dF.2 rfl
     | true=>
      simp only[Bool.not_true,Bool.false_eq_true,if_false,gl];refine M.dF.2 ⟨⟨i+2,Q++[(jJ[i].1,lO b.1.2.2.2.1 jJ[i].2 jJ[i+1].2)],by omega,?_,?_⟩,?_⟩
      ·rw[<-tO,cA];simp
      ·rw[List.append_assoc];rfl
      ·show (20 - ((i:Int)+2)).toNat<(20 - (i:Int)).toNat;omega
   ·have au:decide ((i:Int)+1<(jJ.length:Int))=false:=by simpa using (by omega:(jJ.length:Int)<=(i:Int)+1)
    simp only[bG,b2,hw,au,Bool.false_eq_true,if_false,M.aE];refine M.dF.2 ?_;rw[al' E,List.append_nil]at tO;show (eV,some b,t.2,(u:Int),(eV,S,P++Q,false),())=_;rw[tO]
  ·cases z with
   | next z=>
    have bb:z=_:=bb;subst bb;simp only[M.bK,b2,amb];refine M.dF.2 ⟨⟨u+1,by omega,?_⟩,?_⟩
    ·rw[amd];rfl
    ·show (10 - ((u:Int)+1)).toNat<(10 - (u:Int)).toNat;omega
   | done z=>
    cases z with
    | next z=>exact absurd bb id
    | done y=>
     have bb:y.1.2.2.2=true:=bb;simp only[M.pb];refine M.dF.2 λh=>?_;rw[bb]at h;cases h
 ·have MZ:u=10:=by omega
  subst MZ;simp only[show decide (((10:Nat):Int)<10)=false from by decide,Bool.false_eq_true,if_false,M.aE];refine M.dF.2 λ_=>(GB _).2 ?_;show (t.2.take 10).flatMap _=_;rw[<-h1,List.take_length];rfl
abbrev AB:aJ:=⟨.aw (.bq ss) (.bq xR),.b8 (.aw gV tI),λ_=>True,λx=>sH (some x.2,some x.1)⟩
theorem ame(x):M.le (akb sH x) (AB.sh x):=M.bg λ_=>rfl
end Go.Fer.H
namespace Go.Fer.H
open M (aa)
theorem AD{aj β:Type}{f:aj->β}:∀ {l:List aj},(l.map f).Nodup->∀ {a b:aj},a∈l->b∈l->f a=f b->a=b
 | [],_,a,b,aV,_,_=>by grind
 | x::l,az,a,b,aV,ab,e=>by
  rw[List.map_cons,List.nodup_cons]at az;rcases List.mem_cons.1 aV with h1 | h1<;>rcases List.mem_cons.1 ab with h2 | h2
  ·grind
  ·grind
  ·grind
  ·exact AD az.2 h1 h2 e
theorem amf{l m:z1'}(h:l.Perm m):l.sum=m.sum:=by
 induction h with
 | nil=>rfl
 | cons x _ aH=>grind
 | swap x y l=>grind
 | trans _ _ h1 h2=>omega
theorem Og{l:List bj}(h:ed l=true){i:Nat}(E:i<l.length):dQ l[i].1=1+((i % 2:Nat):Int)/\(0<i->l[i].2≠(l.getD (i - 1) e0).2):=by
 unfold ed at h;rw[List.all_eq_true]at h;have:=h i (by grind);unfold qi at this;grind
theorem Xm(cl:z4'):∀ l:List bj,(∀ i,(h:i<l.length)->dQ l[i].1=1+((i % 2:Nat):Int))->df cl l=((ud l).filter λp=>dQ p.1.1 == 1).map λp=>(p.1.1,lO cl p.1.2 p.2.2)
 | [],_=>rfl
 | [_],_=>rfl
 | [a,b],h=>by
  have aV:dQ a.1=1:=h 0 (by simp);simp[df,ud,aV]
 | a::b::c::r,h=>by
  have aV:dQ a.1=1:=h 0 (by simp);have ab:dQ b.1=2:=h 1 (by simp);have aH:=Xm cl (c::r) λi E=>by
   have:=h (i+2) (by grind);grind
  have e:ud (a::b::c::r)=(a,b)::(b,c)::ud (c::r):=rfl;rw[e,List.filter_cons_of_pos (by grind),List.filter_cons_of_neg (by grind),List.map_cons,<-aH];rfl
abbrev mU(c:aQ)(w:z1'):List bj:=pt c (mS c w)
theorem HO(c:aQ)(w:z1'):mU c w=(dJ 0 9).flatMap λu=>df c.2.2.2.1 (bP c w u):=by
 rfl
theorem Oh{c:aQ}{w:z1'}(hw:iE c w=true){u:Int}(hu:0<=u/\u<=9):gI c w u=bP c w u:=by
 unfold gI;rw[if_pos (HC hw hu)]
theorem amg{cl:z4'}{l:List bj}(h:ed l=true)(iU:Int):DR cl iU l=((df cl l).find? λp=>p.1.1 == iU).map (·.2):=by
 rw[Xm cl l λi E=>(Og h E).1];unfold DR;rw[List.find?_map,List.find?_filter,Option.map_map];refine congrArg _ (congrArg (λf=>(ud l).find? f) ?_);grind
theorem Xn{aj β:Type}{f g:aj->Option β}:∀ {l:List aj},(∀ x∈l,f x=g x)->l.findSome? f=l.findSome? g
 | [],_=>rfl
 | x::l,h=>by
  rw[List.findSome?_cons,List.findSome?_cons,h x (by simp),Xn λy aM=>h y (by grind)]
theorem Oi{c:aQ}{w:z1'}(hw:iE c w=true)(iU:Int):jI c w iU=((mU c w).find? λp=>p.1.1 == iU).map (·.2):=by
 unfold jI;rw[HO,List.find?_flatMap,List.map_findSome?];refine Xn λu hu=>?_;have hu:=sn.1 hu;rw[Oh hw hu,amg (HC hw hu)];rfl
theorem Xo{c:aQ}(aA:gH c){w:z1'}(hw:iE c w=true):DZ c (mS c w):=by
 have h2:=DT aA.ck hw;have key:∀ u:Int,0<=u/\u<=9->(bP c w u).length<=12/\∀ i,(h:i+1<(bP c w u).length)->Av (c,(bP c w u)[i].2,(bP c w u)[i+1].2):=by
  intro u hu;have:=Oh hw hu;refine⟨DO aA w u,?_⟩;have k:=λi=>@W7 c aA w h2 u i;simp only[this]at k;exact k
 refine⟨rfl,λl ai=>?_⟩;simp only[mS,List.mem_cons,List.not_mem_nil,or_false]at ai;rcases ai with rfl | rfl | rfl | rfl | rfl | rfl | rfl | rfl | rfl | rfl<;>exact key _ (by omega)
theorem Xp{cl:z4'}:∀ {l:List bj} {p:bj},p∈df cl l->∃ i,∃ h:i+1<l.length,i % 2=0/\p=(l[i].1,lO cl l[i].2 l[i+1].2)
 | [],_,h=>by simp[df]at h
 | [_],_,h=>by simp[df]at h
 | a::b::r,p,h=>by
  unfold df at h;rcases List.mem_cons.1 h with rfl | h
  ·exact⟨0,by simp,rfl,rfl⟩
  ·obtain⟨i,E,h2,e⟩:=Xp h;exact⟨i+2,by grind,by omega,e⟩
theorem Xq(cl:z4'):∀ l:List bj,((df cl l).map (·.1)).Sublist (l.map (·.1))
 | []=>.slnil
 | [_]=>List.nil_sublist _
 | a::b::r=>by
  unfold df;simp only[List.map_cons];exact ((Xq cl r).cons _).cons_cons _
theorem Xr(l:List aU):((gG l).map (·.1)).Nodup:=by
 unfold gG;have key:∀ L:z1',L.Nodup->((L.filterMap λid=>l.find? λs=>s.1 == id).map (·.1)).Nodup/\∀ k∈(L.filterMap λid=>l.find? λs=>s.1 == id).map (·.1),k∈L:=by
  grind
 refine (key _ ?_).1;unfold dJ;show List.Pairwise _ _;rw[List.pairwise_map];exact (List.pairwise_lt_range).imp λh=>by omega
theorem Oj(c:aQ):((e' c).map (·.1)).Nodup:=by
 unfold e';exact (Xr c.2.1).sublist (List.filter_sublist.map _)
theorem Ol{c:aQ}{a b:aU}(aV:a∈e' c)(ab:b∈e' c)(h:a.1=b.1):a=b:=by
 exact AD (Oj c) aV ab h
theorem Om(c:aQ)(w:z1')(u:Int):((bP c w u).map (·.1)).Perm ((e' c).filter λs=>decide (tZ s=u)):=by
 unfold bP oB;refine ((DK hL _).map _).trans ?_;rw[List.map_map];exact List.Perm.of_eq (List.map_id' _)
theorem Xs{c:aQ}{w:z1'}{p:bj}(h:p∈mU c w):∃ u,0<=u/\u<=9/\∃ i,∃ E:i+1<(bP c w u).length,i % 2=0/\p=((bP c w u)[i].1,lO c.2.2.2.1 (bP c w u)[i].2 (bP c w u)[i+1].2):=by
 rw[HO,List.mem_flatMap]at h;obtain⟨u,hu,hp⟩:=h;obtain⟨i,E,h2,e⟩:=Xp hp;exact⟨u,(sn.1 hu).1,(sn.1 hu).2,i,E,h2,e⟩
theorem AE{c:aQ}{w:z1'}{p:bj}(h:p∈mU c w):p.1∈e' c:=by
 obtain⟨u,_,_,i,E,_,rfl⟩:=Xs h;exact (DP (List.getElem_mem (by omega:i<(bP c w u).length))).1
theorem amh{c:aQ}{w:z1'}(hw:iE c w=true){p:bj}(h:p∈mU c w):dQ p.1=1:=by
 obtain⟨u,h1,h2,i,E,h3,rfl⟩:=Xs h;have:=(Og (HC hw ⟨h1,h2⟩) (by omega:i<(bP c w u).length)).1;grind
theorem On(c:aQ)(w:z1'):((mU c w).map (·.1)).Nodup:=by
 have hc:(e' c).Nodup:=by
  have:=Oj c;exact List.Pairwise.of_map _ (λa b h e=>h (by rw[e])) this
 have hu:∀ u,((df c.2.2.2.1 (bP c w u)).map (·.1)).Nodup/\∀ s∈(df c.2.2.2.1 (bP c w u)).map (·.1),tZ s=u:=by
  intro u;have hs:=Xq c.2.2.2.1 (bP c w u);have hp:=Om c w u;grind
 rw[HO,List.map_flatMap];have key:∀ L:z1',L.Nodup->(L.flatMap λu=>(df c.2.2.2.1 (bP c w u)).map (·.1)).Nodup/\∀ s∈(L.flatMap λu=>(df c.2.2.2.1 (bP c w u)).map (·.1)),tZ s∈L:=by
  grind
 refine (key _ ?_).1;unfold dJ;show List.Pairwise _ _;rw[List.pairwise_map];exact (List.pairwise_lt_range).imp λh=>by omega
theorem Xt{aj:Type}(x1:aj->Int):∀ (l:List aj) (n:Int),l.foldl (λn x=>n+x1 x) n=n+(l.map x1).sum
 | [],n=>by simp
 | x::l,n=>by simp only[List.foldl_cons,List.map_cons,List.sum_cons];rw[Xt x1 l];omega
theorem ami{aj:Type}{f g:aj->Int}{l:List aj}(h:∀ x∈l,f x=g x):(l.map f).sum=(l.map g).sum:=by rw[List.map_congr_left h]
theorem amj{ψ:bj->Int}:∀ (C:List aU) (H:List bj),(C.map (·.1)).Nodup->(H.map (·.1)).Nodup->(∀ p∈H,p.1∈C)->(C.map λs=>(((H.find? λp=>p.1.1 == s.1).map ψ).getD 0)).sum=(H.map ψ).sum:=by
 intro C H jb mB qP;have e:(H.map ψ).sum=((C.filterMap λs=>H.find? λp=>p.1.1 == s.1).map ψ).sum:=by
  refine amf (List.Perm.map ψ ?_);have amk:H.Nodup:=List.Pairwise.of_map _ (λa b h e=>h (by rw[e])) mB;refine (List.perm_ext_iff_of_nodup amk ?_).2 λp=>?_
  ·have:∀ C:List aU,(C.map (·.1)).Nodup->(C.filterMap λs=>H.find? λp=>p.1.1 == s.1).Nodup/\∀ q∈(C.filterMap λs=>H.find? λp=>p.1.1 == s.1),q.1.1∈C.map (·.1):=by
    grind
   grind
  ·rw[List.mem_filterMap];constructor
   ·intro hp;refine⟨p.1,qP p hp,?_⟩;have hex:(H.find? λq=>q.1.1 == p.1.1).isSome=true:=List.find?_isSome.2 ⟨p,hp,by simp⟩;obtain⟨q,bf⟩:=Option.isSome_iff_exists.1 hex;have D0:q.1.1=p.1.1:=by grind
    have vK:=List.mem_of_find?_eq_some bf;have aml:q.1=p.1:=AD jb (qP q vK) (qP p hp) D0;have:q=p:=AD mB vK hp aml;grind
   grind
 rw[e];have:∀ C:List aU,(C.map λs=>(((H.find? λp=>p.1.1 == s.1).map ψ).getD 0)).sum=((C.filterMap λs=>H.find? λp=>p.1.1 == s.1).map ψ).sum:=by
  intro C;induction C with
  | nil=>rfl
  | cons s C aH=>
   grind
 grind
def uj(c:aQ)(g:Int)(p:bj):Int:=if iB p.1=g then la c.2.2.2.2 p.2 else 0
theorem amm{c:aQ}{w:z1'}(hw:iE c w=true)(g:Int):HB c w g=((mU c w).map (uj c g)).sum:=by
 rw[<-amj (ψ:=uj c g) (e' c) (mU c w) (Oj c) (On c w) λp hp=>AE hp];unfold HB;have e:(λ(n:Int) (s:aU)=>if (dQ s=1/\iB s=g)/\(jI c w (k9 s)).isSome=true then n+la c.2.2.2.2 ((jI c w (k9 s)).getD 0) else n)=λn s=>n+(if (dQ s=1/\iB s=g)/\(jI c w (k9 s)).isSome=true then la c.2.2.2.2 ((jI c w (k9 s)).getD 0) else 0):=by
  grind
 rw[e,Xt,Int.zero_add];refine ami λs hs=>?_;rw[Oi hw];cases ar:(mU c w).find? λp=>p.1.1 == k9 s with
 | none=>simp
 | some p=>
  have hp:=List.mem_of_find?_eq_some ar;have h1:p.1.1=s.1:=by grind
  have h2:p.1=s:=Ol (AE hp) hs h1;have h3:=amh hw hp;rw[h2]at h3;simp only[Option.map_some,Option.getD_some,Option.isSome_some,and_true,h3,true_and,uj,h2]
theorem AF(c:aQ)(b:Bool):((cW c b).2≠0/\(cW c b).1=[]/\sG c b=(none,(cW c b).2))\/(cW c b=(cw c,0)/\cu c=0/\b=true/\sG c b=(some (ui c),0)):=by
 unfold cW sG;by_cases hc:cu c=0
 ·cases b with
  | false=>left;simp[hc]
  | true=>
   by_cases aG:cw c=[]
   ·left;simp[hc,aG]
   ·right;simp[hc,aG]
 ·left;simp[hc]
theorem Oo{aj β:Type}{f g:aj->Option β}:∀ {l:List aj},(∀ x∈l,f x=g x)->l.filterMap f=l.filterMap g
 | [],_=>rfl
 | x::l,h=>by
  rw[List.filterMap_cons,List.filterMap_cons,h x (by simp),Oo λy aM=>h y (by simp[aM])]
theorem Xu:ue []=(0,0):=rfl
theorem amn{aj:Type}(L:List aj)(P:aj->Option du)(f:Option du->M (Int×Bool))(v:aj->Int×Bool)(h:∀ w∈L,f (P w)=M.pure (v w)):vJ (L.map P) f=xZ (L.filterMap λw=>if (v w).2=true then some (v w).1 else none):=by
 unfold vJ;rw[List.filterMap_map];refine congrArg xZ (Oo λw hw=>?_);simp only[Function.comp,h w hw,M.fi]
theorem Xv{aj:Type}(x1:aj->Int)(L:List aj):(L.filterMap λw=>if ((x1 w,true):Int×Bool).2=true then some ((x1 w,true):Int×Bool).1 else none)=L.map x1:=by
 simp only[if_true];rw[<-List.filterMap_eq_map']
theorem Oq{c:aQ}(ai:(cw c).length<=60){f:Option du->M (Int×Bool)}{v:z1'->Int×Bool}(h:∀ w∈cw c,f (ie c w)=M.pure (v w)):AA.sh (some (ui c),f)=M.pure ((xZ ((cw c).filterMap λw=>if (v w).2=true then some (v w).1 else none)).getD (0,0),(xZ ((cw c).filterMap λw=>if (v w).2=true then some (v w).1 else none)).isSome):=by
 refine (M.bE ⟨ui c,rfl,show ((cw c).map (ie c)).length<=60 by simpa using ai,λt aG=>?_⟩ _).trans (congrArg M.pure ?_)
 ·show ((vJ ((cw c).map (ie c)) f).getD (0,0),(vJ ((cw c).map (ie c)) f).isSome)=_;rw[amn _ _ f v h]
 ·obtain⟨w,hw,rfl⟩:=List.mem_map.1 aG;exact⟨_,h w hw⟩
theorem amo:∀ {l:z1'},(xZ l).isSome=!l.isEmpty:=by
 intro l;have key:∀ (l:z1') (o:Option (Int×Int)),o.isSome=true->(l.foldl (λo n=>some (HD o n)) o).isSome=true:=by
  intro l;induction l with
  | nil=>intro o h;exact h
  | cons n l aH=>intro o _;exact aH _ rfl
 cases l with
 | nil=>rfl
 | cons n l=>exact key l _ rfl
theorem D1{c:aQ}{f:Option dE->M Bool}{b:Bool}(h:gA c)(ar:cu c=0->f (some (c,e' c,[]))=M.pure b):vI.sh (c,f)=M.pure (sG c b):=by
 refine (M.bE ⟨h,λhc=>⟨b,ar hc⟩⟩ _).trans (congrArg M.pure ?_);show sG c (DX c f)=sG c b;unfold sG DX;by_cases hc:cu c=0
 ·rw[ar hc,M.fi]
 ·simp[hc]
theorem D2{c:aQ}(h:gA c)(hc:cu c=0):(cw c).length<=60:=Nat.le_trans (N9 c _ _) (h.2 hc)
theorem vL{c:aQ}{w:z1'}(h:w∈cw c):iE c w=true:=N_ c _ _ _ h
abbrev AG:aJ:=⟨.aw gV (.bq tI),cN,λx=>∃ k:Int,x.2=some k/\True,λx=>decide (k9 x.1=x.2.getD 0)&&decide (dQ x.1=1)⟩
theorem amp(x):M.le (akl x) (AG.sh x):=M.bg λ_=>rfl
abbrev Ot:aJ:=⟨.aw (.bq ss) (.bq tI),cN,λx=>∃ (b:dE) (k:Int),x.2=some k/\x.1=some b/\b.2.1.length<2 ^ 63,λx=>(x.1.getD (uh,[],[])).2.1.any λs=>k9 s == x.2.getD 0&&dQ s == 1⟩
theorem amq(x):M.le (Wa (iS gV).sh AG.sh x) (Ot.sh x):=M.bg λh=>by
 obtain⟨o,k⟩:=x;obtain⟨b,_,_,ab,h⟩:=h;change o=some b at ab;subst ab;unfold Wa;simp only[Option.isSome_some,M.be,Option.getD_some];have hv:∀ s,AG.sh (s,some (k.getD 0))=M.pure (decide (k9 s=k.getD 0)&&decide (dQ s=1)):=λs=>M.bE ⟨_,rfl,trivial⟩ _;rw[show (iS gV).sh (b.2.1,λs=>AG.sh (s,some (k.getD 0)))=M.pure (b.2.1.any λs=>(AG.sh (s,some (k.getD 0))).val false) from M.bE ⟨h,λs _=>⟨_,hv s⟩⟩ _,M.aE];refine congrArg M.pure ?_;show _=b.2.1.any λs=>k9 s == k.getD 0&&dQ s == 1;refine congrArg (λp=>b.2.1.any p) ?_;funext s;rw[hv,M.fi];rw[Bool.eq_iff_iff];simp
theorem Xw{f:Int->M Int}{n:Int}:∀ (L:List bj),(∀ p∈L,p.1.1=n->∃ v,f p.2=M.pure v)->
  jA (λ(A:Int×(Int->M Int)×Int×Bool×Unit) (y:aU×Int)=>M.bind (if decide (y.1.1=A.1)=true then M.bind (A.2.1 y.2) λy=>M.pure (cQ.ret,y,true,()) else M.pure
 (cQ.normal,A.2.2.1,A.2.2.2.1,())) λp=>M.pure (p.1,A.1,A.2.1,p.2.1,p.2.2.1,())) L (n,f,0,false,())=(L.find? λp=>p.1.1 == n).elim (M.pure (cQ.normal,n,f,0,false,())) λp=>M.pure (cQ.ret,n,f,(f p.2).val 0,true,())
 | [],_=>rfl
 | p::L,h=>by
  unfold jA;by_cases hp:p.1.1=n
  ·obtain⟨v,hv⟩:=h p (by simp) hp;simp[hp,hv]
  ·have aH:=Xw L λq bf=>h q (by simp[bf]);simp only[hp,decide_false,Bool.false_eq_true,if_false,M.aE];rw[aH,List.find?_cons_of_neg (by simpa using hp)]
abbrev Ou:aJ:=⟨.aw (.bq xR) (.aw (.bq (.bq ss)) (.aw (.bq tI) (.bq (.fn tI tI)))),.aw tI .bool,λx=>∃ (t:du) (b:dE) (n:Int) (f:Int->M Int),x=(some t,some (some b),some n,some f)/\DZ b.1 t.2/\∀ p∈pt b.1 t.2,p.1.1=n->∃ v,f p.2=M.pure v,λx=>((pt ((x.2.1.getD none).getD (uh,[],[])).1 (x.1.getD ([],[])).2).find? λp=>p.1.1 == x.2.2.1.getD 0).elim (0,false) λp=>(((x.2.2.2.getD λ_=>M.fail) p.2).val 0,true)⟩
theorem amr(x):M.le (Wb AB.sh x) (Ou.sh x):=M.sj λh=>by
 obtain⟨t,b,n,f,rfl,h1,h2⟩:=h;unfold Wb;simp only[Option.getD_some];rw[show AB.sh (some b,some t)=M.pure (sH (some (some t),some (some b))) from rfl,M.aE,M.fJ];refine⟨⟨_,t,b,rfl,rfl,h1,rfl⟩,λL iy=>?_⟩;obtain⟨cD,aZ,e1,e2,_,rfl⟩:=iy;cases e1;cases e2;rw[Xw (f:=f) (n:=n) _ h2];show M.b_ _ λy=>y=((pt b.1 t.2).find? λp=>p.1.1 == n).elim (0,false) λp=>((f p.2).val 0,true)
 cases (pt b.1 t.2).find? λp=>p.1.1 == n with
 | none=>simp only[Option.elim,M.aE,r4];exact M.dF.2 rfl
 | some p=>simp only[Option.elim,M.aE,r4];exact M.dF.2 rfl
abbrev AH:aJ:=⟨.aw ji (.aw tI (.fn tI tI)),.aw mi tI,λx=>gA x.1/\∀ w∈cw x.1,∀ m,cu x.1=0->jI x.1 w x.2.1=some m->∃ v,x.2.2 m=M.pure v,λx=>(ue ((lb x.1 x.2.1).1.map λm=>(x.2.2 m).val 0),(lb x.1 x.2.1).2)⟩
theorem ams(x):M.le (VV vI.sh AA.sh Ot.sh Ou.sh x) (AH.sh x):=M.bg λh=>by
 obtain⟨c,n,f⟩:=x;obtain⟨h,ar⟩:=h;change gA c at h;change ∀ w∈cw c,∀ m,cu c=0->jI c w n=some m->∃ v,f m=M.pure v at ar;unfold VV;show _=M.pure (ue ((lb c n).1.map λm=>(f m).val 0),(lb c n).2);unfold lb;rw[D1 (b:=Ay c n) h λhc=>M.bE ⟨(c,e' c,[]),n,rfl,rfl,by have:=(oC hc).N5;show (e' c).length<2 ^ 63;omega⟩ _];rcases AF c (Ay c n) with⟨h1,h2,h3⟩ | ⟨h1,h2,h3,aR⟩
 ·rw[h3];simp only[M.aE];rw[if_pos (by simpa using h1),if_pos h1];rfl
 ·rw[h1,aR];simp only[M.aE];rw[if_neg (by simp)];have aA:=oC h2;rw[Oq (v:=λw=>(jI c w n).elim (0,false) λm=>((f m).val 0,true)) (D2 h h2) λw hw=>?_,M.aE]
  ·have e:((cw c).filterMap λw=>if ((jI c w n).elim ((0,false):Int×Bool) λm=>((f m).val 0,true)).2=true then some ((jI c w n).elim ((0,false):Int×Bool) λm=>((f m).val 0,true)).1 else none)=((cw c).filterMap λw=>jI c w n).map λm=>(f m).val 0:=by
    rw[List.map_filterMap];refine Oo λw _=>?_;cases jI c w n<;>rfl
   rw[e,amo];generalize (cw c).filterMap (λw=>jI c w n)=l;cases l with
   | nil=>rfl
   | cons m l=>simp;rfl
  ·have aG:=vL hw;have u5:=Oi aG n;refine (M.bE ⟨(w,mS c w),ui c,n,f,rfl,Xo aA aG,λp hp Xx=>?_⟩ _).trans (congrArg M.pure ?_)
   ·show ((mU c w).find? λp=>p.1.1 == n).elim (0,false) (λp=>((f p.2).val 0,true))=_;rw[u5];cases (mU c w).find? λp=>p.1.1 == n<;>rfl
   ·refine ar w hw p.2 h2 ?_;rw[u5];have hex:((mU c w).find? λq=>q.1.1 == n).isSome=true:=List.find?_isSome.2 ⟨p,hp,by simpa using Xx⟩;obtain⟨q,bf⟩:=Option.isSome_iff_exists.1 hex;have D0:q.1.1=n:=by have:=List.find?_some bf;simpa using this
    have vK:=List.mem_of_find?_eq_some bf;have hs:q.1=p.1:=Ol (AE vK) (AE hp) (D0.trans Xx.symm);have:q=p:=AD (On c w) vK hp hs;rw[bf,this];rfl
abbrev x2:aJ:=⟨tI,tI,λ_=>True,λx=>x⟩
theorem amt(x):M.le (aka x) (x2.sh x):=M.bg λ_=>rfl
theorem amu(x):M.le (VJ AH.sh x2.sh x) (HF.sh x):=M.bg λh=>by
 obtain⟨c,n⟩:=x;change gA c at h;unfold VJ;rw[show AH.sh (c,n,x2.sh)=M.pure (ue ((lb c n).1.map λm=>(x2.sh m).val 0),(lb c n).2) from M.bE ⟨h,λ_ _ m _ _=>⟨m,rfl⟩⟩ _];simp only[M.aE];show _=M.pure (HE c n);unfold HE;have:((lb c n).1.map λm=>(x2.sh m).val 0)=(lb c n).1:=by
  have:(λm:Int=>(x2.sh m).val 0)=λm=>m:=by
   funext m;exact M.fi
  rw[this,List.map_id']
 rw[this]
abbrev x3:aJ:=⟨.aw tI (.bq ji),tI,λx=>∃ c:aQ,x.2=some c/\xY (c.2.2.2.2,x.1),λx=>la (x.2.getD uh).2.2.2.2 x.1⟩
theorem amv(x):M.le (VW vG.sh x) (x3.sh x):=M.bg λh=>by
 obtain⟨m,q⟩:=x;obtain⟨c,hc,h⟩:=h;change q=some c at hc;subst hc;unfold VW;simp only[Option.getD_some];rw[show vG.sh (c.2.2.2.2,m)=M.pure (la c.2.2.2.2 m) from M.bE h _,M.aE]
theorem Xy{c:aQ}(aA:gH c){w:z1'}(hw:iE c w=true){n m:Int}(an:jI c w n=some m):x3.sh (m,some c)=M.pure (la c.2.2.2.2 m):=by
 have:=W' aA (DT aA.ck hw) an;exact M.bE ⟨c,rfl,aA.N4,show -100000<=m by omega,show m<=20000 by omega⟩ _
theorem amw{c:aQ}{n m:Int}(an:m∈(lb c n).1):cu c=0/\∃ w,iE c w=true/\w∈cw c/\jI c w n=some m:=by
 unfold lb at an;split at an
 ·simp at an
 ·split at an
  ·simp at an
  ·rw[List.mem_filterMap]at an;obtain⟨w,hw,he⟩:=an;obtain⟨h1,h2,h3,_⟩:=alN hw;exact⟨h1,w,h3,h2,he⟩
theorem amx(x):M.le (VI AH.sh x3.sh x) (HH.sh x):=M.bg λh=>by
 obtain⟨c,n⟩:=x;change gA c at h;unfold VI;rw[show AH.sh (c,n,λm=>x3.sh (m,some c))=M.pure (ue ((lb c n).1.map λm=>(x3.sh (m,some c)).val 0),(lb c n).2) from M.bE ⟨h,λw hw m hc an=>⟨_,Xy (oC hc) (vL hw) an⟩⟩ _];simp only[M.aE];show _=M.pure (HG c n);unfold HG;have:((lb c n).1.map λm=>(x3.sh (m,some c)).val 0)=(lb c n).1.map λm=>la c.2.2.2.2 m:=by
  refine List.map_congr_left λm an=>?_;obtain⟨hc,w,hw,_,he⟩:=amw an;rw[Xy (oC hc) hw he,M.fi]
 rw[this]
abbrev Ov:aJ:=⟨.aw (.bq ss) (.bq tI),cN,λx=>∃ k:Int,x.2=some k/\True,λx=>bM (x.2.getD 0) 0 99⟩
theorem amy(x):M.le (V1 vx.sh x) (Ov.sh x):=M.bg λ_=>by
 unfold V1;rw[show vx.sh (x.2.getD 0)=M.pure (bM (x.2.getD 0) 0 99) from rfl,M.aE]
abbrev Ow:aJ:=⟨.aw (.bq xR) (.aw (.bq (.bq ss)) (.aw (.bq tI) (.bq ji))),.aw tI .bool,λx=>∃ (t:du) (b:dE) (n:Int) (c:aQ),x=(some t,some (some b),some n,some c)/\DZ b.1 t.2/\(pt b.1 t.2).length<=1000/\∀ p∈pt b.1 t.2,xY (c.2.2.2.2,p.2),λx=>(((pt ((x.2.1.getD none).getD (uh,[],[])).1 (x.1.getD ([],[])).2).map (uj (x.2.2.2.getD uh) (x.2.2.1.getD 0))).sum,true)⟩
theorem Ox{c:aQ}{n:Int}:∀ (L:List bj) (a:Int),(∀ p∈L,xY (c.2.2.2.2,p.2))->0<=a->a+100000*(L.length:Int)<=1000000000->
  jA (λ(A:Int×aQ×Int×Unit) (y:aU×Int)=>M.bind (if decide (y.1.2.2.2.2.2=A.1)=true then M.ae (vG.sh (A.2.1.2.2.2.2,y.2)).bY (M.pure (cQ.normal,IntKind.wrap
 .i64 (Add.add A.2.2.1 (M.val (vG.sh (A.2.1.2.2.2.2,y.2)) 0)),())) else M.pure (cQ.normal,A.2.2.1,())) λp=>M.pure (p.1,A.1,A.2.1,p.2.1,())) L (n,c,a,())=M.pure (cQ.normal,n,c,a+(L.map (uj c n)).sum,())
 | [],a,_,_,_=>by simp[jA]
 | p::L,a,h,h0,h1=>by
  unfold jA;simp only[List.length_cons]at h1;by_cases hp:p.1.2.2.2.2.2=n
  ·have ab:=alA (h p (by simp));have hv:vG.sh (c.2.2.2.2,p.2)=M.pure (la c.2.2.2.2 p.2):=M.bE (h p (by simp)) _;have hw:=bn (n:=a+la c.2.2.2.2 p.2) (by omega) (by omega);have aH:=Ox (c:=c) (n:=n) L (a+la c.2.2.2.2 p.2) (λq bf=>h q (by simp[bf])) (by omega) (by omega);simp only[hp,decide_true,if_true,hv,M.iG,M.fi,M.be,b2,hw,M.aE];simp only[b2]at aH;rw[aH,List.map_cons,List.sum_cons];rw[show uj c n p=la c.2.2.2.2 p.2 from if_pos hp];rw[Int.add_assoc]
  ·have aH:=Ox (c:=c) (n:=n) L a (λq bf=>h q (by simp[bf])) h0 (by omega);simp only[hp,decide_false,Bool.false_eq_true,if_false,M.aE];rw[aH,List.map_cons,List.sum_cons];rw[show uj c n p=0 from if_neg hp,Int.zero_add]
theorem amz(x):M.le (V3 vG.sh AB.sh x) (Ow.sh x):=M.sj λh=>by
 obtain⟨t,b,n,c,rfl,h1,h2,h3⟩:=h;unfold V3;simp only[Option.getD_some];rw[show AB.sh (some b,some t)=M.pure (sH (some (some t),some (some b))) from rfl,M.aE,M.fJ];refine⟨⟨_,t,b,rfl,rfl,h1,rfl⟩,λL iy=>?_⟩;obtain⟨cD,aZ,e1,e2,_,rfl⟩:=iy;cases e1;cases e2;rw[Ox _ 0 h3 (by omega) (by omega)];show M.b_ _ λy=>y=(((pt b.1 t.2).map (uj c n)).sum,true)
 simp only[M.aE,r4,Int.zero_add];exact M.dF.2 rfl
theorem Xz(cl:z4'):∀ l:List bj,(df cl l).length<=l.length
 | []=>by simp[df]
 | [_]=>by simp[df]
 | a::b::r=>by unfold df;simp only[List.length_cons];have:=Xz cl r;omega
theorem amA{c:aQ}(aA:gH c)(w:z1'):(mU c w).length<=1000:=by
 rw[HO];have:=N8 (λu=>df c.2.2.2.1 (bP c w u)) 12 (dJ 0 9) λu _=>Nat.le_trans (Xz _ _) (DO aA w u);rw[show (dJ 0 9).length=10 from by decide]at this;omega
theorem amB{c:aQ}(aA:gH c){w:z1'}(hw:iE c w=true){p:bj}(hp:p∈mU c w):xY (c.2.2.2.2,p.2):=by
 have hex:((mU c w).find? λq=>q.1.1 == p.1.1).isSome=true:=List.find?_isSome.2 ⟨p,hp,by simp⟩;obtain⟨q,bf⟩:=Option.isSome_iff_exists.1 hex;have D0:q.1.1=p.1.1:=by have:=List.find?_some bf;simpa using this
 have vK:=List.mem_of_find?_eq_some bf;have:q=p:=AD (On c w) vK hp (Ol (AE vK) (AE hp) D0);have hv:jI c w p.1.1=some p.2:=by rw[Oi hw,bf,this];rfl
 have:=W' aA (DT aA.ck hw) hv;exact⟨aA.N4,show -100000<=p.2 by omega,show p.2<=20000 by omega⟩
theorem amC(x):M.le (VL vI.sh AA.sh Ov.sh Ow.sh x) (HJ.sh x):=M.bg λh=>by
 obtain⟨c,g⟩:=x;change gA c at h;unfold VL;show _=M.pure (HI c g);unfold HI;rw[D1 (b:=bM g 0 99) h λhc=>M.bE ⟨g,rfl,trivial⟩ _];rcases AF c (bM g 0 99) with⟨h1,h2,h3⟩ | ⟨h1,h2,h3,aR⟩
 ·rw[h2,h3];simp only[M.aE,List.map_nil,Xu];rw[if_pos (by simpa using h1)]
 ·rw[h1,aR];simp only[M.aE];rw[if_neg (by simp)];have aA:=oC h2;rw[Oq (v:=λw=>(HB c w g,true)) (D2 h h2) λw hw=>?_,M.aE,Xv]
  ·rfl
  ·have aG:=vL hw;refine (M.bE ⟨(w,mS c w),ui c,g,c,rfl,Xo aA aG,amA aA w,λp hp=>amB aA aG hp⟩ _).trans (congrArg M.pure ?_);show (((mU c w).map (uj c g)).sum,true)=_;rw[amm aG]
def ml(t:Int):List bj->bj×Bool->bj×Bool
 | [],b=>b
 | e::l,b=>ml t l (if e.2<=t then (e,decide (dQ e.1=1)) else b)
def gJ(l:List bj)(t:Int):bj×Bool:=ml t l (e0,false)
theorem XA{t:Int}{e:bj}{l:List bj}{b:bj×Bool}(h:e.2<=t):ml t (e::l) b=ml t l (e,decide (dQ e.1=1)):=by rw[ml,if_pos h]
theorem XB{t:Int}{e:bj}{l:List bj}{b:bj×Bool}(h:¬e.2<=t):ml t (e::l) b=ml t l b:=by rw[ml,if_neg h]
theorem XC(t:Int):∀ (l:List bj) (b:bj×Bool),l.foldl (λb e=>if e.2<=t then (e,decide (dQ e.1=1)) else b) b=ml t l b
 | [],_=>rfl
 | e::l,b=>XC t l _
theorem amD(l:List bj)(t:Int)(h:∀ e∈l,dQ e.1=1\/dQ e.1=2):mQ l t=(if (gJ l t).2=true then iB (gJ l t).1.1 else -1,(gJ l t).1.2):=by
 have key:∀ (l:List bj) (b:bj×Bool),(∀ e∈l,dQ e.1=1\/dQ e.1=2)->l.foldl (λb e=>if e.2<=t then (if dQ e.1=2 then (-1,e.2) else (iB e.1,e.2)) else b) (if b.2=true then iB b.1.1 else -1,b.1.2)=(if (ml t l b).2=true then iB (ml t l b).1.1 else -1,(ml t l b).1.2):=by
  intro l;induction l with
  | nil=>intro b _;rfl
  | cons e l aH=>
   intro b h;rw[List.foldl_cons];by_cases he:e.2<=t
   ·rw[XA he,<-aH (e,decide (dQ e.1=1)) λx hx=>h x (by grind),if_pos he];grind
   ·rw[XB he,if_neg he];grind
 exact key l (e0,false) h
theorem XD(l:List bj)(t:Int):gJ l t=(e0,false)\/((gJ l t).1∈l/\(gJ l t).1.2<=t/\(gJ l t).2=decide (dQ (gJ l t).1.1=1)):=by
 have key:∀ (l:List bj) (b:bj×Bool),ml t l b=b\/((ml t l b).1∈l/\(ml t l b).1.2<=t/\(ml t l b).2=decide (dQ (ml t l b).1.1=1)):=by
  intro l;induction l with
  | nil=>intro b;exact .inl rfl
  | cons e l aH=>
   intro b;by_cases he:e.2<=t
   ·rw[XA he];grind
   ·rw[XB he];grind
 exact key l (e0,false)
abbrev Oy(t:du):Prop:=t.2.length=10/\∀ l∈t.2,l.length<=12
abbrev x4:aJ:=⟨.aw (.bq xR) (.aw tI tI),.aw Hn .bool,λx=>∃ t:du,x.1=some t/\Oy t/\0<=x.2.1/\x.2.1<=9,λx=>gJ ((x.1.getD ([],[])).2.getD x.2.1.toNat []) x.2.2⟩
theorem amE(x):M.le (VT x) (x4.sh x):=M.bg λh=>by
 obtain⟨o,u,m⟩:=x;obtain⟨t,h1,⟨h2,h3⟩,aR,bw⟩:=h;change o=some t at h1;change 0<=u at aR;change u<=9 at bw;subst h1;unfold VT;show _=M.pure (gJ (t.2.getD u.toNat []) m);simp only[Option.isSome_some,M.be,Option.getD_some];rw[M.bk (show (0:Int)<=u/\u<Int.ofNat 10 by grind)];have an:t.2.getD u.toNat []∈t.2:=xL aR (by omega);have ai:=h3 _ an;generalize t.2.getD u.toNat []=l at *
 rw[M.dh l (λi (b:bj×Bool)=>(m,b.2,l,(l.length:Int),(i:Int),e0,b.1,())) (λe b=>.next (if e.2<=m then (e,decide (dQ e.1=1)) else b)) (λb=>.next (b.2,e0,b.1,())) (e0,false) ?_ ?_ ?_]
 ·rw[dP,M.aE,XC];rfl
 ·rfl
 ·intro i E b;have hw:=bn (n:=(i:Int)+1) (by omega) (by omega);simp only[Prod.cK,Prod.e8,bG,cC E,if_true,cV E,ct E,M.be,b2,hw,aa.gT,decide_eq_true_eq];by_cases he:l[i].2<=m
  ·simp_all
  ·simp only[he,if_false,M.aE,M.bK,hw];rfl
 simp
theorem XE(c:aQ)(w:z1'){u:Int}(h0:0<=u)(h:u<=9):(mS c w).getD u.toNat []=bP c w u:=by
 have hu:u=0\/u=1\/u=2\/u=3\/u=4\/u=5\/u=6\/u=7\/u=8\/u=9:=by omega
 rcases hu with rfl | rfl | rfl | rfl | rfl | rfl | rfl | rfl | rfl | rfl<;>rfl
theorem XF{c:aQ}(aA:gH c)(w:z1'):Oy (w,mS c w):=by
 refine⟨rfl,λl ai=>?_⟩;simp only[mS,List.mem_cons,List.not_mem_nil,or_false]at ai;rcases ai with rfl | rfl | rfl | rfl | rfl | rfl | rfl | rfl | rfl | rfl<;>exact DO aA w _
theorem XG{c:aQ}(aA:gH c)(w:z1'){u t:Int}(h0:0<=u)(h:u<=9):x4.sh (ie c w,u,t)=M.pure (gJ (bP c w u) t):=by
 refine (M.bE ⟨_,rfl,XF aA w,h0,h⟩ _).trans (congrArg M.pure ?_);show gJ ((mS c w).getD u.toNat []) t=_;rw[XE c w h0 h]
theorem amF{c:aQ}(aA:gH c){w:z1'}{u:Int}{e:bj}(he:e∈bP c w u):dQ e.1=1\/dQ e.1=2/\iB e.1=0:=(As.1 (aA.Au (DP he).1)).2.2.2.2.2
theorem Oz{c:aQ}(aA:gH c){w:z1'}{u:Int}{e:bj}(he:e∈bP c w u):0<=iB e.1/\iB e.1<=99:=(As.1 (aA.Au (DP he).1)).2.2.2.2.1
theorem HP{c:aQ}(aA:gH c){w:z1'}(hw:iE c w=true){u:Int}(hu:0<=u/\u<=9)(t:Int):mQ (gI c w u) t=(if (gJ (bP c w u) t).2=true then iB (gJ (bP c w u) t).1.1 else -1,(gJ (bP c w u) t).1.2)/\(decide ((mQ (gI c w u) t).1>=0)=(gJ (bP c w u) t).2):=by
 have e:=amD (bP c w u) t λe he=>(amF aA he).imp id And.left;rw[Oh hw hu];refine⟨e,?_⟩;rw[e];cases ab:(gJ (bP c w u) t).2 with
 | false=>simp
 | true=>
  simp only[if_true,decide_eq_true_eq];rcases XD (bP c w u) t with h | ⟨h,_⟩
  ·grind
  ·exact (Oz aA h).1
abbrev AI:aJ:=⟨.aw (.bq ss) (.bq tI),cN,λx=>∃ k:Int,x.2=some k/\True,λx=>bM (x.2.getD 0) 0 9999⟩
theorem XH(x):M.le (VY xU.sh x) (AI.sh x):=M.bg λ_=>by
 unfold VY;rw[show xU.sh (x.2.getD 0)=M.pure (bM (x.2.getD 0) 0 9999) from rfl,M.aE]
theorem amG(x):M.le (aki xU.sh x) (AI.sh x):=XH x
def D3(t:du)(m p:Int):Int:=(dJ 0 9).foldl (λn u=>if (gJ (t.2.getD u.toNat []) m).2=true then n+p else n) 0
abbrev OA:aJ:=⟨.aw (.bq xR) (.aw (.bq tI) (.bq ji)),.aw tI .bool,λx=>∃ (t:du) (m:Int) (c:aQ),x=(some t,some m,some c)/\Oy t/\0<=c.2.2.2.2.2.2.2.2.2.2/\c.2.2.2.2.2.2.2.2.2.2<=100000,λx=>(D3 (x.1.getD ([],[])) (x.2.1.getD 0) (x.2.2.getD uh).2.2.2.2.2.2.2.2.2.2,true)⟩
theorem amH(x):M.le (V0 x4.sh x) (OA.sh x):=M.bg λh=>by
 obtain⟨t,m,c,rfl,h1,h2,h3⟩:=h;unfold V0;simp only[Option.getD_some];show _=M.pure (D3 t m c.2.2.2.2.2.2.2.2.2.2,true);rw[M.fZ (dJ 0 9) (λi (n:Int)=>(some t,m,c,n,(i:Int),())) (λu n=>.next (if (gJ (t.2.getD u.toNat []) m).2=true then n+c.2.2.2.2.2.2.2.2.2.2 else n)) (λn=>.next (n,())) (λi n=>0<=n/\n<=100000*(i:Int)) 0 ?_ ?_ ?_ ?_]
 ·rw[dP,M.aE];rfl
 ·rfl
 ·omega
 ·intro i E n az;have E:i<10:=by simpa [dJ]using E
  have hw:=bn (n:=(i:Int)+1) (by omega) (by omega);have gl:=bn (n:=n+c.2.2.2.2.2.2.2.2.2.2) (by omega) (by omega);have au:decide ((i:Int)<10)=true:=by grind
  refine⟨?_,λaZ cS=>?_⟩
  ·simp only[au,if_true,z1,Int.zero_add];rw[show x4.sh (some t,(i:Int),m)=M.pure (gJ (t.2.getD ((i:Int)).toNat []) m) from M.bE ⟨t,rfl,h1,by simp,by grind⟩ _];simp only[M.aE,b2,hw,gl,aa.gT];by_cases ao:(gJ (t.2.getD ((i:Int)).toNat []) m).2=true
   ·simp only[ao,if_true,M.aE,M.bK,hw];rfl
   ·simp only[ao,Bool.false_eq_true,if_false,M.aE,M.bK,hw];rfl
  grind
 ·intro n az;have:(dJ 0 9).length=10:=by decide
  simp[this]
theorem amI{c:aQ}(aA:gH c){w:z1'}(hw:iE c w=true)(m:Int):D3 (w,mS c w) m c.2.2.2.2.2.2.2.2.2.2=HA c w m*c.2.2.2.2.2.2.2.2.2.2:=by
 unfold D3 HA;have key:∀ (L:z1') (n:Int),(∀ u∈L,0<=u/\u<=9)->L.foldl (λn u=>if (gJ ((mS c w).getD u.toNat []) m).2=true then n+c.2.2.2.2.2.2.2.2.2.2 else n) (n*c.2.2.2.2.2.2.2.2.2.2)=(L.foldl (λn u=>if (mQ (gI c w u) m).1>=0 then n+1 else n) n)*c.2.2.2.2.2.2.2.2.2.2:=by
  intro L;induction L with
  | nil=>simp
  | cons u L aH=>
   intro n h;have hu:=h u (by simp);obtain⟨_,h2⟩:=HP aA hw hu m;simp only[List.foldl_cons];rw[XE c w hu.1 hu.2];grind
 have:=key (dJ 0 9) 0 λu hu=>sn.1 hu;grind
theorem amJ(x):M.le (VK vI.sh AA.sh AI.sh OA.sh x) (HL.sh x):=M.bg λh=>by
 obtain⟨c,t⟩:=x;change gA c at h;unfold VK;show _=M.pure (HK c t);unfold HK;rw[D1 (b:=bM t 0 9999) h λhc=>M.bE ⟨t,rfl,trivial⟩ _];rcases AF c (bM t 0 9999) with⟨h1,h2,h3⟩ | ⟨h1,h2,h3,aR⟩
 ·rw[h2,h3];simp only[M.aE,List.map_nil,Xu];grind
 ·rw[h1,aR];simp only[M.aE];rw[if_neg (by simp)];have aA:=oC h2;have hp:=(Hz.1 aA.N4).2.2.2.2.2.2;rw[Oq (v:=λw=>(HA c w t*c.2.2.2.2.2.2.2.2.2.2,true)) (D2 h h2) λw hw=>?_,M.aE,Xv]
  ·rfl
  ·refine (M.bE ⟨(w,mS c w),t,c,rfl,XF aA w,hp.1,hp.2⟩ _).trans (congrArg M.pure ?_);show (D3 (w,mS c w) t c.2.2.2.2.2.2.2.2.2.2,true)=_;rw[amI aA (vL hw)]
theorem XI(p:Int×Int)(m:z4')(k v:Int):eQ (p::m) k v=if decide (k=p.1)=true then (p.1,v)::m else p::eQ m k v:=rfl
theorem OB(k v:Int):∀ m:z4',((m.map (·.1)).Nodup->((eQ m k v).map (·.1)).Nodup)/\∀ x,x∈(eQ m k v).map (·.1)<->x∈m.map (·.1)\/x=k
 | []=>by
  rw[show eQ [] k v=[(k,v)] from rfl];simp
 | p::m=>by
  obtain⟨h1,h2⟩:=OB k v m;rw[XI];grind
theorem XJ(k v:Int){B:Int}:∀ m:z4',(∀ p∈m,0<=p.2/\p.2<=B)->0<=v/\v<=B->∀ p∈eQ m k v,0<=p.2/\p.2<=B
 | [],_,hv,p,hp=>by
  rw[show eQ [] k v=[(k,v)] from rfl,List.mem_singleton]at hp;grind
 | q::m,h,hv,p,hp=>by
  rw[XI]at hp;split at hp
  ·grind
  ·rcases List.mem_cons.1 hp with rfl | hp
   ·grind
   ·exact XJ k v m (λx hx=>h x (by grind)) hv p hp
def ld(c:aQ)(w:z1')(u t:Int):Int:=if (gJ (bP c w u) t).2=true then iB (gJ (bP c w u) t).1.1 else -1
def x5(m:z4')(k:Int):Int:=Option.getD (Option.map (λx=>x.2) (List.find? (λp=>decide (k=p.1)) m)) 0
structure AJ(L:z1')(i:Nat)(m:z4'):Prop where
 mb:(m.map (·.1)).Nodup
 mem:∀ x,x∈m.map (·.1)<->x∈L
 val:∀ p∈m,0<=p.2/\p.2<=(i:Int)
theorem AJ.add{L:z1'}{i:Nat}{m:z4'}(h:AJ L i m)(k:Int)(E:i<=60):IntKind.wrap .i64 (x5 m k+1)=x5 m k+1/\AJ (L++[k]) (i+1) (eQ m k (x5 m k+1)):=by
 have ab:0<=x5 m k/\x5 m k<=(i:Int):=by
  unfold x5;cases ar:m.find? λp=>decide (k=p.1) with
  | none=>simp
  | some p=>exact h.val p (List.mem_of_find?_eq_some ar)
 refine⟨bn (by omega) (by omega),(OB _ _ _).1 h.mb,λx=>?_,XJ _ _ _ (λp hp=>by have:=h.val p hp;omega) (by omega)⟩;rw[(OB _ _ _).2,h.mem];simp
theorem amK{c:aQ}(aA:gH c){w:z1'}(hw:iE c w=true){u:Int}(hu:0<=u/\u<=9):((bP c w u).filter λe=>dQ e.1 == 1).length<=11:=by
 have ai:=DO aA w u;by_cases axX:(bP c w u).length=12
 ·have h1:=(Og (HC hw hu) (by omega:1<(bP c w u).length)).1;have h1:dQ (bP c w u)[1].1=2:=h1;have an:=List.getElem_mem (by omega:1<(bP c w u).length);have:((bP c w u).filter λe=>dQ e.1 == 1).length<(bP c w u).length:=by
   refine List.length_filter_lt_length_iff_exists.2 ⟨_,an,by grind⟩
  omega
 grind
theorem amL(c:aQ)(w w':z1')(u:Int):(((bP c w u).filter λe=>dQ e.1 == 1).map (·.1)).Perm (((bP c w' u).filter λe=>dQ e.1 == 1).map (·.1)):=by
 have e:∀ w,((bP c w u).filter λe=>dQ e.1 == 1).map (·.1)=((bP c w u).map (·.1)).filter λs=>dQ s == 1:=λw=>by rw[List.filter_map];rfl
 rw[e,e];exact ((Om c w u).trans (Om c w' u).symm).filter _
theorem OD(c:aQ)(w:z1')(u t:Int):ld c w u t=-1\/∃ s∈((bP c w u).filter λe=>dQ e.1 == 1).map (·.1),ld c w u t=iB s:=by
 unfold ld;rcases XD (bP c w u) t with h | ⟨h1,h2,h3⟩
 ·left;rw[h];rfl
 ·by_cases ab:(gJ (bP c w u) t).2=true
  ·right;rw[if_pos ab];rw[h3]at ab;exact⟨_,List.mem_map.2 ⟨_,List.mem_filter.2 ⟨h1,by simpa using ab⟩,rfl⟩,rfl⟩
  ·left;rw[if_neg ab]
theorem amM{c:aQ}(aA:gH c){u t:Int}(hu:0<=u/\u<=9){K:z1'}(az:K.Nodup)(ix:∀ x∈K,x∈(cw c).map λw=>ld c w u t):K.length<=12:=by
 cases hT:cw c with
 | nil=>
  rw[hT]at ix;cases K with
  | nil=>simp
  | cons x K=>have:=ix x (by simp);grind
 | cons w0 T=>
  have zV:iE c w0=true:=vL (by grind);have qP:K ⊆ -1::(((bP c w0 u).filter λe=>dQ e.1 == 1).map (·.1)).map iB:=by
   intro x hx;obtain⟨w,hw,rfl⟩:=List.mem_map.1 (ix x hx);rcases OD c w u t with h | ⟨s,hs,h⟩
   ·grind
   ·rw[h];exact List.mem_cons_of_mem _ (List.mem_map_of_mem ((amL c w w0 u).mem_iff.1 hs))
  have:=az.length_le_of_subset qP;have axY:=amK aA zV hu;grind
abbrev OE:aJ:=⟨.aw (.bq ss) (.aw (.bq tI) (.bq tI)),cN,λx=>∃ a b:Int,x.2=(some a,some b),λx=>vH (x.2.1.getD 0) (x.2.2.getD 0)⟩
theorem amN(x):M.le (VR bX.sh xU.sh x) (OE.sh x):=M.bg λ_=>by
 unfold VR;rw[alO,M.aE,show xU.sh (x.2.2.getD 0)=M.pure (bM (x.2.2.getD 0) 0 9999) from rfl,M.j6,M.aE,vr];rfl
theorem XK{c:aQ}(aA:gH c){w:z1'}(hw:iE c w=true){u:Int}(hu:0<=u/\u<=9)(t:Int):(mQ (gI c w u) t).1=ld c w u t:=by rw[(HP aA hw hu t).1];rfl
theorem amO(x):M.le (VH vI.sh x4.sh sw.sh Hu.sh OE.sh x) (HM.sh x):=M.sj λh=>by
 obtain⟨c,u,t⟩:=x;change gA c at h;unfold VH;show M.b_ _ λy=>y=ri c u t;unfold ri N';rw[D1 (b:=vH u t) h λhc=>M.bE ⟨u,t,rfl⟩ _];rcases AF c (vH u t) with⟨h1,h2,h3⟩ | ⟨h1,h2,h3,aR⟩
 ·rw[h2,h3];simp only[M.aE];rw[if_pos (by grind)];refine M.dF.2 ?_;simp
 ·rw[h1,aR];simp only[M.aE];rw[if_neg (by simp)];have aA:=oC h2;have cq:(0<=u/\u<=9)/\0<=t/\t<=9999:=by
   unfold vH at h3;rw[Bool.and_eq_true,oA,oA]at h3;exact h3
  have hu:=cq.1;have hlen:=D2 h h2;simp only[Option.isSome_some,M.be,Option.getD_some];show M.b_ (M.bind (M.loop _ ((cw c).map (ie c),_,0,u,t,[],())) _) _;rw[M.fJ];refine (M.Bs (p:=λz=>∃ m,z=.next (m,())/\AJ ((cw c).map λw=>ld c w u t) 60 m) (λA=>∃ (i:Nat) (m:z4'),i<=(cw c).length/\A=((cw c).map (ie c),(((cw c).map (ie c)).length:Int),(i:Int),u,t,m,())/\AJ (((cw c).take i).map λw=>ld c w u t) i m) (λA=>((cw c).length - A.2.2.1).toNat) ?_ _ ⟨0,[],Nat.zero_le _,rfl,⟨.nil,by simp,by simp⟩⟩).mono ?_
  ·rintro A ⟨i,m,n_,rfl,bd⟩;by_cases E:i<(cw c).length
   ·have df:i<((cw c).map (ie c)).length:=by grind
    have hw:=bn (n:=(i:Int)+1) (by omega) (by omega);have an:=List.getElem_mem E;obtain⟨bV,a2⟩:=bd.add (ld c (cw c)[i] u t) (by omega);have pn:((cw c).take (i+1)).map (λw=>ld c w u t)=((cw c).take i).map (λw=>ld c w u t)++[ld c (cw c)[i] u t]:=by
     rw[List.take_add_one,List.getElem?_eq_getElem E,Option.toList_some,List.map_append];rfl
    simp only[Prod.cK,bG,cC df,if_true,cV df,ct df,M.be,List.getElem_map];rw[XG aA _ hu.1 hu.2,M.aE];have fin:∀ k,k=ld c (cw c)[i] u t->(∃ (kV:Nat) (da:z4'),kV<=(cw c).length/\(((cw c).map (ie c),(((cw c).map (ie c)).length:Int),IntKind.wrap .i64 ((i:Int)+1),u,t,eQ m k (IntKind.wrap .i64 (x5 m k+1)),()):List (Option du)×Int×Int×Int×Int×z4'×Unit)=((cw c).map (ie c),(((cw c).map (ie c)).length:Int),(kV:Int),u,t,da,())/\AJ (((cw c).take kV).map λw=>ld c w u t) kV da)/\((cw c).length - IntKind.wrap .i64 ((i:Int)+1)).toNat<((cw c).length - (i:Int)).toNat:=by
     grind
    cases ab:(gJ (bP c (cw c)[i] u) t).2 with
    | true=>
     simp only[if_true];rw[M.aE,M.bK];exact M.dF.2 (fin _ (by unfold ld;grind))
    | false=>
     simp only[Bool.false_eq_true,if_false];rw[M.aE,M.bK];exact M.dF.2 (fin (-1) (by unfold ld;grind))
   ·have amP:i=(cw c).length:=by omega
    subst amP;have au:decide (((cw c).length:Int)<(((cw c).map (ie c)).length:Int))=false:=by simp
    simp only[au,Bool.false_eq_true,if_false,M.aE];refine M.dF.2 ⟨m,rfl,bd.mb,?_,λp hp=>by have:=bd.val p hp;omega⟩;have:=bd.mem;grind
  ·rintro z ⟨m,rfl,bd⟩;rw[M.bK];rw[show Hu.sh m=M.pure (jG (some m)) from rfl,M.aE];have amQ:m.length<=12:=by
    have:=amM aA hu (t:=t) bd.mb λx hx=>(bd.mem x).1 hx;grind
   rw[show sw.sh (jG (some m))=M.pure (e_ gX (m.map (·.1))) from (M.bE (WO (by omega)) _).trans (congrArg M.pure WQ),M.aE];refine M.dF.2 ?_;have e1:e_ gX (m.map (·.1))=(dJ (-1) 99).filter λg=>((cw c).map λw=>(mQ (gI c w u) t).1).contains g:=by
    have amR:((cw c).map λw=>(mQ (gI c w u) t).1)=(cw c).map λw=>ld c w u t:=List.map_congr_left λw hw=>XK aA (vL hw) hu t;rw[amR];have E:(dJ (-1) 99).Pairwise (·<·):=by
     unfold dJ;rw[List.pairwise_map];exact (List.pairwise_lt_range).imp λh=>by omega
    refine Ah ((E.filter _).imp λh=>Int.le_of_lt h) ((List.perm_ext_iff_of_nodup bd.mb ((E.filter _).imp λh=>by omega)).2 λk=>?_);rw[bd.mem,List.mem_filter,sn];simp only[List.contains_iff_mem];refine⟨λao=>⟨?_,ao⟩,λao=>ao.2⟩;obtain⟨w,hw,rfl⟩:=List.mem_map.1 ao;rcases OD c w u t with h | ⟨s,hs,h⟩
    ·omega
    ·rw[h];obtain⟨e,he,rfl⟩:=List.mem_map.1 hs;have:=Oz aA (List.mem_filter.1 he).1;omega
   rw[e1]
def OF(c:aQ)(l:List bj)(t:Int):Bool:=(gJ l t).2&&decide (lO c.2.2.2.1 (gJ l t).1.2 t>=c.2.2.2.2.2.2.2.2.1)
theorem amS{c:aQ}(aA:gH c){w:z1'}(hw:iE c w=true){u:Int}(hu:0<=u/\u<=9)(t:Int):OF c (bP c w u) t=DU c w u t:=by
 obtain⟨h1,h2⟩:=HP aA hw hu t;unfold OF DU;grind
theorem amT(x):M.le (VP vI.sh x4.sh vF.sh AI.sh x) (HN.sh x):=M.bg λh=>by
 obtain⟨c,t⟩:=x;change gA c at h;unfold VP;show _=M.pure (sD c t);unfold sD;rw[D1 (b:=bM t 0 9999) h λhc=>M.bE ⟨t,rfl,trivial⟩ _];rcases AF c (bM t 0 9999) with⟨h1,h2,h3⟩ | ⟨h1,h2,h3,aR⟩
 ·rw[h3];simp only[M.aE];grind
 ·rw[h1,aR];simp only[M.aE];rw[if_neg (by simp),if_neg (by simp)];have aA:=oC h2;have aG:=oA.1 h3;have hlen:=D2 h h2;have hT:∀ w∈cw c,iE c w=true:=λw hw=>vL hw;rw[M.fZ (dJ 0 9) (λi (b:z1'×z1')=>(some (ui c),(i:Int),c,t,b.1,b.2,())) (λu b=>.next (if decide (oD c (cw c) u t=(cw c).length)=true then b.1++[u] else b.1,if decide (oD c (cw c) u t > 0)=true then b.2++[u] else b.2)) (λb=>.next (b.1,b.2,())) (λi b=>b.1.length<=i/\b.2.length<=i) ([],[]) ?_ (by simp) ?_ ?_]
  ·rw[dP,M.aE,M.bK];have key:∀ (p q:Int->Bool) (l:z1') (a b:z1'),l.foldl (λ(z:z1'×z1') u=>(if p u=true then z.1++[u] else z.1,if q u=true then z.2++[u] else z.2)) (a,b)=(a++l.filter p,b++l.filter q):=by
    intro p q l;induction l with
    | nil=>simp
    | cons u l aH=>
     intro a b;simp only[List.foldl_cons];rw[aH];cases hp:p u<;>cases bf:q u<;>simp[hp,bf]
   rw[key (λu=>decide (oD c (cw c) u t=(cw c).length)) (λu=>decide (oD c (cw c) u t > 0))];simp
  ·rfl
  ·intro i E b iq;have E:i<10:=by simpa [dJ]using E
   have hw:=bn (n:=(i:Int)+1) (by omega) (by omega);have au:decide ((i:Int)<10)=true:=by grind
   refine⟨?_,λaZ cS=>?_⟩
   ·simp only[au,if_true,z1,Int.zero_add,Prod.cK,Option.isSome_some,M.be,Option.getD_some];rw[M.fZ (cw c) (λk (n:Nat)=>(some (ui c),(i:Int),(n:Int),(i:Int),(cw c).map (ie c),(((cw c).map (ie c)).length:Int),(k:Int),c,t,b.1,b.2,())) (λw n=>.next (if DU c w i t=true then n+1 else n)) (λn=>.next (some (ui c),(i:Int),(n:Int),(i:Int),c,t,b.1,b.2,())) (λk n=>n<=k) 0 ?_ (by simp) ?_ ?_]
    ·rw[dP];have key:∀ (l:List (z1')) (n:Nat),l.foldl (λn w=>if DU c w i t=true then n+1 else n) n=n+oD c l i t:=by
      intro l;induction l with
      | nil=>intro n;rfl
      | cons w l aH=>
       intro n;simp only[List.foldl_cons];rw[aH];unfold oD;grind
     rw[key,Nat.zero_add,M.aE,M.bK];have Bp:((cw c).map (ie c)).length=(cw c).length:=List.length_map _;simp only[Prod.cK,Prod.e8,Prod.gy,bG,Option.isSome_some,M.be,Option.getD_some,Bp];have eR:bT (Add.add b.1.length (Add.add 0 1)):=gp (by grind);have pI:bT (Add.add b.2.length (Add.add 0 1)):=gp (by grind);have d1:decide ((oD c (cw c) i t:Int) > 0)=decide (oD c (cw c) i t > 0):=by simp
     have d2:decide ((oD c (cw c) i t:Int)=((cw c).length:Int))=decide (oD c (cw c) i t=(cw c).length):=by grind
     rw[d1];cases h1:decide (oD c (cw c) i t > 0)<;>cases h2:decide (oD c (cw c) i t=(cw c).length)<;>
      simp only[if_true,Bool.false_eq_true,if_false,M.bk eR,M.bk pI,M.aE,M.bK,Option.isSome_some,M.be,Option.getD_some,Bp,d2,h2,b2,hw,aa.gT]<;>rfl
    ·rfl
    ·intro k ao n az;have ub:k<((cw c).map (ie c)).length:=by grind
     have hw:=bn (n:=(k:Int)+1) (by omega) (by omega);have gl:=bn (n:=(n:Int)+1) (by omega) (by omega);have kB:=hT _ (List.getElem_mem ao);have mm:=DT h2 kB;have hu:0<=(i:Int)/\(i:Int)<=9:=by omega
     have tw:=amS aA kB hu t;obtain⟨b6,cI⟩:=HP aA kB hu t;refine⟨?_,λaZ cS=>?_⟩
     ·simp only[Prod.cK,Prod.e8,Prod.gy,Prod.ib,Prod.jF,Prod.kI,bG,cC ub,if_true,cV ub,ct ub,M.be,b2,hw,List.getElem_map];rw[XG aA _ hu.1 hu.2,M.aE,<-tw];unfold OF;cases ab:(gJ (bP c (cw c)[k] (i:Int)) t).2 with
      | true=>
       have BW:Av (c,(gJ (bP c (cw c)[k] (i:Int)) t).1.2,t):=by
        have:=alP aA mm aG.2 (u:=(i:Int)) (t:=t) (by grind);grind
       have amU:vF.sh (c,(gJ (bP c (cw c)[k] (i:Int)) t).1.2,t)=M.pure (lO c.2.2.2.1 (gJ (bP c (cw c)[k] (i:Int)) t).1.2 t):=M.bE BW _;simp only[amU,M.iG,M.fi,Bool.true_and,and_self,forall_const,M.be,true_and];by_cases an:lO c.2.2.2.1 (gJ (bP c (cw c)[k] (i:Int)) t).1.2 t>=c.2.2.2.2.2.2.2.2.1
       ·simp_all
       ·simp only[an,decide_false,Bool.false_eq_true,if_false,M.aE,M.bK,hw,aa.gT];rfl
      | false=>
       simp_all
     grind
    simp
   grind
  ·intro b iq;rfl
def XL(OG:aQ->M Int)(x:aQ):M Bool:=
 if (decide (Int.ofNat (List.length x.1) > 20)||decide (Int.ofNat (List.length x.2.1) > 40)||decide (Int.ofNat (List.length x.2.2.1) > 60)||decide (Int.ofNat (List.length x.2.2.2.1) > 40))=true then M.pure true else M.bind (OG x) λy=>if decide (y≠0)=true then M.pure false else M.bind (M.loop (λ(A:Int×Int×aQ×Unit)=>letI b:=List.getD A.2.2.1.1 (Int.toNat A.2.1) (0,0);letI a:=A.2.1<Int.ofNat (List.length A.2.2.1.1);if decide a=true then M.ae (0<=A.2.1/\a) (M.ae (0<=A.2.1/\a) (M.pure (aa.next (IntKind.wrap .i64 (A.1*IntKind.wrap .i64 (Add.add (IntKind.wrap .i64 (b.2-b.1)) 1)),IntKind.wrap .i64 (Add.add A.2.1 1),A.2.2.1,())))) else M.bind (M.pure (aa.next (A.1,()))) λr=>M.pure (aa.done r)) (1,0,x,())) (aa.bm (λ(A:Int×Unit)=>M.pure (decide (A.1 > 60))))
def lP(c:aQ):Bool:=decide (c.1.length > 20)||decide (c.2.1.length > 40)||decide (c.2.2.1.length > 60)||decide (c.2.2.2.1.length > 40)||(decide (cu c=0)&&decide (j' c.1 > 60))
theorem XM:∀ (l:z4') (n:Nat),l.foldl (λn s=>n*(s.2 - s.1+1).toNat) n=n*j' l
 | [],n=>by simp[j']
 | s::l,n=>by simp only[List.foldl_cons,j'];rw[XM l,Nat.mul_assoc]
abbrev vM:aJ:=⟨ji,cN,iF,lP⟩
theorem amV(x):M.le (XL gY.sh x) (vM.sh x):=M.bg λh=>by
 unfold XL;show _=M.pure (lP x);simp only[bG];by_cases hs:(decide ((x.1.length:Int) > 20)||decide ((x.2.1.length:Int) > 40)||decide ((x.2.2.1.length:Int) > 60)||decide ((x.2.2.2.1.length:Int) > 40))=true
 ·rw[if_pos hs];refine congrArg M.pure ?_;unfold lP;grind
 ·rw[if_neg hs,show gY.sh x=M.pure (cu x) from M.bE h _,M.aE];have e:lP x=(decide (cu x=0)&&decide (j' x.1 > 60)):=by
   unfold lP;grind
  rw[e];by_cases hc:cu x=0
  ·have aA:=oC hc;rw[if_neg (by grind)];have az:=aA.dH;rw[M.fZ x.1 (λi (n:Nat)=>((n:Int),(i:Int),x,())) (λs n=>.next (n*(s.2 - s.1+1).toNat)) (λn=>.next ((n:Int),())) (λi n=>n<=61 ^ i) 1 ?_ ?_ ?_ ?_]
   ·rw[dP,XM,Nat.one_mul,M.aE,M.bK];grind
   ·rfl
   ·simp
   ·intro i E n hK;have ao:=aA.clk _ (List.getElem_mem E);have ab:n<=61 ^ 3:=Nat.le_trans hK (Nat.pow_le_pow_right (by omega) (by omega));have hw:=bn (n:=(i:Int)+1) (by omega) (by omega);have b6:=bn (n:=x.1[i].2 - x.1[i].1) (by omega) (by omega);have cI:=bn (n:=x.1[i].2 - x.1[i].1+1) (by omega) (by omega);have ec:((n*(x.1[i].2 - x.1[i].1+1).toNat:Nat):Int)=(n:Int)*(x.1[i].2 - x.1[i].1+1):=by
     grind
    have an:n*(x.1[i].2 - x.1[i].1+1).toNat<=61 ^ (i+1):=by
     rw[Nat.pow_succ];exact Nat.mul_le_mul hK (by omega)
    have GS:n*(x.1[i].2 - x.1[i].1+1).toNat<=61 ^ 4:=Nat.le_trans an (Nat.pow_le_pow_right (by omega) (by omega));have eD:=bn (n:=(n:Int)*(x.1[i].2 - x.1[i].1+1)) (by omega) (by omega);simp_all
   simp
  grind
theorem amW{c:aQ}(h:lP c=false):gA c:=by
 unfold lP at h;simp only[Bool.or_eq_false_iff,decide_eq_false_iff_not,Bool.and_eq_false_imp,decide_eq_true_eq]at h;obtain⟨⟨⟨⟨h1,h2⟩,h3⟩,aR⟩,bw⟩:=h;exact⟨⟨by omega,by omega,by omega,by omega⟩,λhc=>by omega⟩
end Go.Fer.H
