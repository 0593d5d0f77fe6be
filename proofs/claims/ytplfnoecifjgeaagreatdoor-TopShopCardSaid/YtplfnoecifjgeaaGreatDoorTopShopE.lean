/- Part 5 of the proof of TopShop: shallow programs of Go functions, and what they compute. No condition. -/
import Derived.Test.YtplfnoecifjgeaaGreatDoorTopShopD
noncomputable section
set_option linter.unusedVariables false
set_option linter.unusedSimpArgs false
namespace Go.Fer.H
open A (V)
set_option maxRecDepth 100000
abbrev a_:Type:=Int×Int×Int×Int×Int×Int
abbrev pC:Type:=Int×Int×Int×Int×Int×Int×Int
abbrev aZ:Type:=z4'×List a_×z1'×z4'×pC
abbrev bA:Type:=a_×Int
abbrev dQ:Type:=z1'×List (List bA)
abbrev d':Type:=aZ×List a_×List (Option dQ)
abbrev ho:Type:=z4'×List a_×z1'×z4'×Int×Int×Int×Int×Int×Int×Int×List a_×List (Option dQ)×Unit
abbrev fe(l:z4')(a b:Int):z4':=lL (k:=.int .i64) (v:=.int .i64) l a b
abbrev hp:ad:=.st (.az (.int .i64) (.az (.int .i64) (.az (.int .i64) (.az (.int .i64) (.az (.int .i64) (.int .i64))))))
abbrev kW(l:List (Int×a_))(a:Int)(b:a_):List (Int×a_):=lL (k:=.int .i64) (v:=hp) l a b
abbrev akq:List UInt8:=0::1::(List.replicate 2 2++(List.replicate 4 3++(List.replicate 8 4++(List.replicate 16 5++(List.replicate 32 6++(List.replicate 64 7++List.replicate 128 8))))))
abbrev _root_.Prod.db{fK fL fM fN fO fD fE:Type}(x:fK×fL×fM×fN×fO×fD×fE):fD:=x.2.2.2.2.2.1
abbrev _root_.Prod.ft{fK fL fM fN fO fD fE fZ:Type}(x:fK×fL×fM×fN×fO×fD×fE×fZ):fE:=x.2.2.2.2.2.2.1
abbrev _root_.Prod.gM{fK fL fM fN fO fD fE fZ gu:Type}(x:fK×fL×fM×fN×fO×fD×fE×fZ×gu):fZ:=x.2.2.2.2.2.2.2.1
abbrev _root_.Prod.ir{fK fL fM fN fO fD fE fZ gu gN:Type}(x:fK×fL×fM×fN×fO×fD×fE×fZ×gu×gN):gu:=x.2.2.2.2.2.2.2.2.1
abbrev _root_.Prod.jS{fK fL fM fN fO fD fE fZ gu gN hq:Type}(x:fK×fL×fM×fN×fO×fD×fE×fZ×gu×gN×hq):gN:=x.2.2.2.2.2.2.2.2.2.1
abbrev _root_.Prod.kX{fK fL fM fN fO fD fE fZ gu gN hq hM:Type}(x:fK×fL×fM×fN×fO×fD×fE×fZ×gu×gN×hq×hM):hq:=x.2.2.2.2.2.2.2.2.2.2.1
abbrev _root_.Prod.hN{fK fL fM fN fO fD fE fZ gu gN hq hM ia:Type}(x:fK×fL×fM×fN×fO×fD×fE×fZ×gu×gN×hq×hM×ia):hM:=x.2.2.2.2.2.2.2.2.2.2.2.1
abbrev _root_.Prod.nd{fK fL fM fN fO fD fE fZ gu gN hq hM ia iO:Type}(x:fK×fL×fM×fN×fO×fD×fE×fZ×gu×gN×hq×hM×ia×iO):ia:=x.2.2.2.2.2.2.2.2.2.2.2.2.1
abbrev _root_.Prod.pD{fK fL fM fN fO fD fE fZ gu gN hq hM ia iO ju:Type}(x:fK×fL×fM×fN×fO×fD×fE×fZ×gu×gN×hq×hM×ia×iO×ju):iO:=x.2.2.2.2.2.2.2.2.2.2.2.2.2.1
abbrev _root_.Prod.sE{fK fL fM fN fO fD fE fZ gu gN hq hM ia iO ju kf:Type}(x:fK×fL×fM×fN×fO×fD×fE×fZ×gu×gN×hq×hM×ia×iO×ju×kf):ju:=x.2.2.2.2.2.2.2.2.2.2.2.2.2.2.1
abbrev _root_.Prod.x4{fK fL fM fN fO fD fE fZ gu gN hq hM ia iO ju kf kY:Type}(x:fK×fL×fM×fN×fO×fD×fE×fZ×gu×gN×hq×hM×ia×iO×ju×kf×kY):kf:=x.2.2.2.2.2.2.2.2.2.2.2.2.2.2.2.1
abbrev _root_.Prod.Oa{fK fL fM fN fO fD fE fZ gu gN hq hM ia iO ju kf kY l1:Type}(x:fK×fL×fM×fN×fO×fD×fE×fZ×gu×gN×hq×hM×ia×iO×ju×kf×kY×l1):kY:=x.2.2.2.2.2.2.2.2.2.2.2.2.2.2.2.2.1
abbrev _root_.Prod.D0{fK fL fM fN fO fD fE fZ gu gN hq hM ia iO ju kf kY l1 nf:Type}(x:fK×fL×fM×fN×fO×fD×fE×fZ×gu×gN×hq×hM×ia×iO×ju×kf×kY×l1×nf):l1:=x.2.2.2.2.2.2.2.2.2.2.2.2.2.2.2.2.2.1
abbrev _root_.Prod.D1{fK fL fM fN fO fD fE fZ gu gN hq hM ia iO ju kf kY l1 nf oS:Type}(x:fK×fL×fM×fN×fO×fD×fE×fZ×gu×gN×hq×hM×ia×iO×ju×kf×kY×l1×nf×oS):nf:=x.2.2.2.2.2.2.2.2.2.2.2.2.2.2.2.2.2.2.1
abbrev _root_.Prod.D2{fK fL fM fN fO fD fE fZ gu gN hq hM ia iO ju kf kY l1 nf oS qu:Type}(x:fK×fL×fM×fN×fO×fD×fE×fZ×gu×gN×hq×hM×ia×iO×ju×kf×kY×l1×nf×oS×qu):oS:=x.2.2.2.2.2.2.2.2.2.2.2.2.2.2.2.2.2.2.2.1
abbrev _root_.Prod.Ob{fK fL fM fN fO fD fE fZ gu gN hq hM ia iO ju kf kY l1 nf oS qu sF:Type}(x:fK×fL×fM×fN×fO×fD×fE×fZ×gu×gN×hq×hM×ia×iO×ju×kf×kY×l1×nf×oS×qu×sF):qu:=x.2.2.2.2.2.2.2.2.2.2.2.2.2.2.2.2.2.2.2.2.1
abbrev _root_.Prod.Oc{fK fL fM fN fO fD fE fZ gu gN hq hM ia iO ju kf kY l1 nf oS qu sF vD:Type}(x:fK×fL×fM×fN×fO×fD×fE×fZ×gu×gN×hq×hM×ia×iO×ju×kf×kY×l1×nf×oS×qu×sF×vD):sF:=x.2.2.2.2.2.2.2.2.2.2.2.2.2.2.2.2.2.2.2.2.2.1
abbrev _root_.Prod.Od{fK fL fM fN fO fD fE fZ gu gN hq hM ia iO ju kf kY l1 nf oS qu sF vD As:Type}(x:fK×fL×fM×fN×fO×fD×fE×fZ×gu×gN×hq×hM×ia×iO×ju×kf×kY×l1×nf×oS×qu×sF×vD×As):vD:=x.2.2.2.2.2.2.2.2.2.2.2.2.2.2.2.2.2.2.2.2.2.2.1
abbrev _root_.Prod.rs{fK fL fM fN fO fD fE fZ gu gN hq hM ia iO ju kf kY l1 nf oS qu sF vD As HQ:Type}(x:fK×fL×fM×fN×fO×fD×fE×fZ×gu×gN×hq×hM×ia×iO×ju×kf×kY×l1×nf×oS×qu×sF×vD×As×HQ):As:=x.2.2.2.2.2.2.2.2.2.2.2.2.2.2.2.2.2.2.2.2.2.2.2.1
abbrev _root_.Prod.D3{fK fL fM fN fO fD fE fZ gu gN hq hM ia iO ju kf kY l1 nf oS qu sF vD As HQ akr:Type}(x:fK×fL×fM×fN×fO×fD×fE×fZ×gu×gN×hq×hM×ia×iO×ju×kf×kY×l1×nf×oS×qu×sF×vD×As×HQ×akr):HQ:=x.2.2.2.2.2.2.2.2.2.2.2.2.2.2.2.2.2.2.2.2.2.2.2.2.1
def Wl(uc:aZ×(Option d'->A Bool)->A (Option d'×Int))(D4:Option dQ×Int×Int->A (bA×Bool))(D5:(z1'->Prop)->A (z1'))(aks:z4'->A (z1'->Prop))(akt:Option d'×Option Int×Option Int->A Bool)(x:aZ×Int×Int):A (z1'×Int):=
 A.bind (uc (x.1,λhy=>akt (hy,some x.2.1,some x.2.2))) λy=>letI a:=(Option.getD y.1 (([],[],[],[],0,0,0,0,0,0,0),[],[])).2.2;if decide (y.2≠0)=true then A.pure ([],y.2) else A.bind (A.ab (Option.isSome y.1=true) (A.loop (λ(D:List (Option dQ)×Int×Int×Int×Int×z4'×Unit)=>letI b:=D.2.2;if decide (b.1<D.2.1)=true then A.bind (A.ab (0<=b.1/\b.1<Int.ofNat (List.length D.1)) (A.bind (D4 (List.getD D.1 (Int.toNat b.1) none,b.2.1,b.2.2.1)) (λy=>if y.2=true then A.pure (V.next (D.1,D.2.1,b.1,b.2.1,b.2.2.1,fe D.db y.1.1.2.2.2.2.2 (IntKind.wrap .i64 (Add.add (Option.getD (Option.map (λx=>x.2) (List.find? (λp=>decide (y.1.1.2.2.2.2.2=p.1)) D.db)) 0) 1)),())) else A.pure (V.next (D.1,D.2.1,b.1,b.2.1,b.2.2.1,fe D.db (-1) (IntKind.wrap .i64 (Add.add (Option.getD (Option.map (λx=>x.2) (List.find? (λp=>decide (-1=p.1)) D.db)) 0) 1)),()))))) (V.bz (λ(D:List (Option dQ)×Int×Int×Int×Int×z4'×Unit)=>A.pure (V.next (D.1,D.2.1,IntKind.wrap .i64 (Add.add D.2.2.1 1),D.2.2.2.1,D.2.2.2.2.1,D.db,())))) else A.bind (A.pure (V.next (D.db,()))) λr=>A.pure (V.done r)) (a,Int.ofNat (List.length a),0,x.2.1,x.2.2,[],()))) (V.bz (λ(D:z4'×Unit)=>A.bind (aks D.1) λy=>A.bind (D5 y) λy=>A.pure (y,0)))
def Wm(x:aZ):A aZ:=
 A.ab (bM (Add.add 0 (List.length x.1))) (A.ab (bM (Add.add 0 (List.length x.2.1))) (A.ab (bM (Add.add 0 (List.length x.2.2.1))) (A.ab (bM (Add.add 0 (List.length x.2.2.2.1))) (A.pure ([]++x.1,[]++x.2.1,[]++x.2.2.1,[]++x.2.2.2.1,x.2.2.2.2)))))
def Wn(Oe:aZ×Int×(Int->A Int)->A ((Int×Int)×Int))(aku:Int×Option aZ->A Int)(x:aZ×Int):A ((Int×Int)×Int):=
 A.bind (Oe (x.1,x.2,λhy=>aku (hy,some x.1))) λy=>A.pure y
def Wo(Oe:aZ×Int×(Int->A Int)->A ((Int×Int)×Int))(akv:Int->A Int)(x:aZ×Int):A ((Int×Int)×Int):=
 A.bind (Oe (x.1,x.2,akv)) λy=>A.pure y
def Wp(uc:aZ×(Option d'->A Bool)->A (Option d'×Int))(D6:Option d'×(Option dQ->A (Int×Bool))->A ((Int×Int)×Bool))(akw:Option d'×Option Int->A Bool)(akx:Option dQ×Option Int×Option aZ->A (Int×Bool))(x:aZ×Int):A ((Int×Int)×Int):=
 A.bind (uc (x.1,λhy=>akw (hy,some x.2))) λy=>if decide (y.2≠0)=true then A.pure ((0,0),y.2) else A.bind (D6 (y.1,λhy=>akx (hy,some x.2,some x.1))) λy=>A.pure (y.1,0)
def Wq(uc:aZ×(Option d'->A Bool)->A (Option d'×Int))(D6:Option d'×(Option dQ->A (Int×Bool))->A ((Int×Int)×Bool))(aky:Option d'×Option Int->A Bool)(akz:Option dQ×Option (Option d')×Option Int×Option aZ->A (Int×Bool))(x:aZ×Int):A ((Int×Int)×Int):=
 A.bind (uc (x.1,λhy=>aky (hy,some x.2))) λy=>if decide (y.2≠0)=true then A.pure ((0,0),y.2) else A.bind (D6 (y.1,λhy=>akz (hy,some y.1,some x.2,some x.1))) λy=>A.pure (y.1,0)
def Wr(akA:aZ->A Bool)(Of:List a_->A (List a_×Bool))(x:aZ):A Int:=
 A.bind (akA x) λy=>if (!y)=true then A.pure 90 else A.bind (Of x.2.1) λy=>if (!y.2)=true then A.pure 91 else A.pure 0
def Ws(akB:aZ->A Bool)(Wt:a_×Int×Int×Int×Int×Int×Int->A Bool)(x:aZ):A Int:=
 A.bind (akB x) λy=>if (!y)=true then A.pure 90 else A.bind (A.loop (λ(D:Int×aZ×Unit)=>if decide (D.1<Int.ofNat (List.length D.2.1.2.1))=true then A.bind (A.loop (λ(D:Int×Int×aZ×Unit)=>letI c:=D.2.2.1;letI b:=Int.ofNat (List.length c.2.1);letI a:=(List.getD c.2.1 (Int.toNat D.2.1) (0,0,0,0,0,0),List.getD c.2.1 (Int.toNat D.1) (0,0,0,0,0,0));if decide (D.2.1<D.1)=true then A.ab (0<=D.2.1/\D.2.1<b) (A.ab (0<=D.1/\D.1<b) (A.ab (Wt a).ck (if A.val (Wt a) false=true then A.bind (A.bind (A.bind (A.bind (A.pure 91) (λr=>A.pure (V.done r))) (λr=>A.pure (V.done r))) (λr=>A.pure (V.done r))) λr=>A.pure (V.done r) else A.pure (V.next (D.1,IntKind.wrap .i64 (Add.add D.2.1 1),c,()))))) else A.bind (A.pure (V.next (D.1,c,()))) λr=>A.pure (V.done r)) (D.1,0,D.2.1,())) (V.bz (λ(D:Int×aZ×Unit)=>A.pure (V.next (IntKind.wrap .i64 (Add.add D.1 1),D.2.1,())))) else A.bind (A.pure (V.next ())) λr=>A.pure (V.done r)) (0,x,())) (V.bz (λ(D:Unit)=>A.pure 0))
def Wu(uc:aZ×(Option d'->A Bool)->A (Option d'×Int))(D4:Option dQ×Int×Int->A (bA×Bool))(Au:aZ×Int×Int->A Int)(akC:Option d'×Option Int->A Bool)(x:aZ×Int):A (z1'×z1'×Int):=
 A.bind (uc (x.1,λhy=>akC (hy,some x.2))) λy=>if decide (y.2≠0)=true then A.pure ([],[],y.2) else A.bind (A.loop (λ(D:Option d'×Int×aZ×Int×z1'×z1'×Unit)=>letI b:=(Option.getD D.1 (([],[],[],[],0,0,0,0,0,0,0),[],[])).2.2;if decide (D.2.1<10)=true then A.bind (A.bind (A.ab (Option.isSome D.1=true) (A.loop (λ(D:Option d'×Int×Int×Int×List (Option dQ)×Int×Int×aZ×Int×z1'×z1'×Unit)=>letI d:=D.2.2.2;if decide (D.ft<D.db)=true then A.bind (A.ab (0<=D.ft/\D.ft<Int.ofNat (List.length d.2.1)) (A.bind (D4 (List.getD d.2.1 (Int.toNat D.ft) none,D.2.1,D.ir)) (λy=>letI a:=y.2=true;letI c:=a->a/\True/\True;A.ab c (A.ab (a->(a/\a/\a/\True)/\(Au (D.gM,y.1.2,D.ir)).ck/\True) (A.ab c (A.ab c (A.ab (a->(a/\a)/\True/\True) (A.ab (True/\(a->a)) (if (y.2&&decide (A.val (Au (D.gM,y.1.2,D.ir)) 0>=D.gM.ir))=true then A.pure (V.next (D.1,D.2.1,IntKind.wrap .i64 (Add.add D.2.2.1 1),d.1,d.2.1,D.db,D.ft,D.gM,D.ir,D.jS,D.kX,())) else A.pure (V.next (D.1,D.2.1,D.2.2.1,d.1,d.2.1,D.db,D.ft,D.gM,D.ir,D.jS,D.kX,()))))))))))) (V.bz (λ(D:Option d'×Int×Int×Int×List (Option dQ)×Int×Int×aZ×Int×z1'×z1'×Unit)=>A.pure (V.next (D.1,D.2.1,D.2.2.1,D.2.2.2.1,D.2.2.2.2.1,D.db,IntKind.wrap .i64 (Add.add D.ft 1),D.gM,D.ir,D.jS,D.kX,())))) else A.bind (A.pure (V.next (D.1,D.2.1,D.2.2.1,d.1,D.gM,D.ir,D.jS,D.kX,()))) λr=>A.pure (V.done r)) (D.1,D.2.1,0,D.2.1,b,Int.ofNat (List.length b),0,D.2.2.1,D.2.2.2.1,D.2.2.2.2.1,D.db,()))) (V.bz (λ(D:Option d'×Int×Int×Int×aZ×Int×z1'×z1'×Unit)=>letI e:=D.2.2;A.bind (if decide (e.1 > 0)=true then A.ab (bM (Add.add (List.length D.gM) (Add.add 0 1))) (A.pure (V.next (D.1,D.2.1,e.1,e.2.1,e.2.2.1,D.db,D.ft,D.gM++[D.2.1],()))) else A.pure (V.next (D.1,D.2.1,e.1,e.2.1,e.2.2.1,D.db,D.ft,D.gM,()))) (V.bz (λ(D:Option d'×Int×Int×Int×aZ×Int×z1'×z1'×Unit)=>letI f:=D.2.2.2;A.ab (Option.isSome D.1=true) (if decide (D.2.2.1=Int.ofNat (List.length (Option.getD D.1 (([],[],[],[],0,0,0,0,0,0,0),[],[])).2.2))=true then A.ab (bM (Add.add (List.length D.ft) (Add.add 0 1))) (A.pure (V.next (D.1,f.1,f.2.1,D.db,D.ft++[D.2.1],D.gM,()))) else A.pure (V.next (D.1,f.1,f.2.1,D.db,D.ft,D.gM,())))))))) (V.bz (λ(D:Option d'×Int×aZ×Int×z1'×z1'×Unit)=>A.pure (V.next (D.1,IntKind.wrap .i64 (Add.add D.2.1 1),D.2.2.1,D.2.2.2.1,D.2.2.2.2.1,D.db,())))) else A.bind (A.pure (V.next (D.2.2.2.2.1,D.db,()))) λr=>A.pure (V.done r)) (y.1,0,x.1,x.2,[],[],())) (V.bz (λ(D:z1'×z1'×Unit)=>A.pure (D.1,D.2.1,0)))
def Wv(Av:aZ->A Int)(akD:List a_×Unit->A (Bool×List a_×Unit))(akE:(Int×Int×Int×Int×Int×Int->A Bool)×List a_×Unit->A ((Nat×Nat)×List a_×Unit))(Og:z1'×ho->A (ho))(akF:a_×Option aZ->A Bool)(x:aZ×(Option d'->A Bool)):A (Option d'×Int):=
 A.bind (Av x.1) λy=>if decide (y≠0)=true then A.pure (none,y) else A.bind (akD (x.1.2.1,())) λy=>A.ab True (A.ab True (A.bind (akE (λhy=>akF (hy,some x.1),y.2.1,())) (λy=>A.ab True (A.bind (A.bind (x.2 (some (x.1,List.drop y.1.1 (List.take y.1.2 y.2.1),[]))) (λb3=>if (!b3)=true then A.bind (A.pure (none,1)) λr=>A.pure (V.done r) else A.pure (V.next (x.1.1,x.1.2.1,x.1.2.2.1,x.1.2.2.2.1,x.1.2.2.2.2.1,x.1.db,x.1.ft,x.1.gM,x.1.ir,x.1.jS,x.1.2.2.2.2.2.2.2.2.2.2,y.1,y.2.1,[],())))) (V.bz (λ(D:z4'×List a_×z1'×z4'×Int×Int×Int×Int×Int×Int×Int×(Nat×Nat)×List a_×List (Option dQ)×Unit)=>A.bind (Og ([],D.1,D.2.1,D.2.2.1,D.2.2.2.1,D.2.2.2.2.1,D.db,D.ft,D.gM,D.ir,D.jS,D.kX,List.drop D.hN.1 (List.take D.hN.2 D.nd),D.pD,())) λy=>A.ab True (if decide (Int.ofNat (List.length y.nd)=0)=true then A.pure (none,3) else A.pure (some ((y.1,y.2.1,y.2.2.1,y.2.2.2.1,y.2.2.2.2.1,y.db,y.ft,y.gM,y.ir,y.jS,y.kX),y.hN,y.nd),0))))))))
def Ww(jv:Int×Int×Int->A Bool)(D7:Int->A Bool)(x:Option d'×Option Int×Option Int):A Bool:=
 A.bind (jv (Option.getD x.2.1 0,0,9)) λy=>A.bind (cq y (D7 (Option.getD x.2.2 0)) false) λb3=>A.pure (y&&b3)
def akG(x:Int×Int×Int):A Bool:=
 A.pure (decide (x.2.1<=x.1)&&decide (x.1<=x.2.2))
def Wx(jv:Int×Int×Int->A Bool)(x:Int):A Bool:=
 A.bind (jv (x,0,9999)) λy=>A.pure y
def Wy(x:Option dQ×Int×Int):A (bA×Bool):=
 letI b:=List.getD (Option.getD x.1 ([],[[],[],[],[],[],[],[],[],[],[]])).2 (Int.toNat x.2.1) [];A.bind (A.ab (Option.isSome x.1=true) (A.ab (0<=x.2.1/\x.2.1<Int.ofNat 10) (A.loop (λ(D:Int×Bool×List bA×Int×Int×bA×bA×Unit)=>letI d:=D.2.2;letI c:=d.2.2.1;letI a:=List.getD d.1 (Int.toNat c) ((0,0,0,0,0,0),0);if decide (c<d.2.1)=true then A.bind (A.ab (0<=c/\c<Int.ofNat (List.length d.1)) (if decide (a.2<=D.1)=true then A.pure (V.next (D.1,decide (a.1.2.2.2.1=1),d.1,d.2.1,c,D.db,a,())) else A.pure (V.next (D.1,D.2.1,d.1,d.2.1,c,D.db,D.ft,())))) (V.bz (λ(D:Int×Bool×List bA×Int×Int×bA×bA×Unit)=>A.pure (V.next (D.1,D.2.1,D.2.2.1,D.2.2.2.1,IntKind.wrap .i64 (Add.add D.2.2.2.2.1 1),D.db,D.ft,())))) else A.bind (A.pure (V.next (D.2.1,D.db,D.ft,()))) λr=>A.pure (V.done r)) (x.2.2,false,b,Int.ofNat (List.length b),0,((0,0,0,0,0,0),0),((0,0,0,0,0,0),0),())))) (V.bz (λ(D:Bool×bA×bA×Unit)=>A.pure (D.2.2.1,D.1)))
def Wz(Oh:z1'×Unit->A (z1'×Unit))(akH:(z1'->Prop)×Unit->A (z1'×Unit))(x:z1'->Prop):A (z1'):=
 A.bind (akH (x,())) λy=>A.bind (Oh (y.1,())) λy=>A.pure y.1
def akI(akJ:Option (z4')->z1'->Prop)(x:z4'):A (z1'->Prop):=
 A.pure (akJ (some x))
def WA(uc:aZ×(Option d'->A Bool)->A (Option d'×Int))(D6:Option d'×(Option dQ->A (Int×Bool))->A ((Int×Int)×Bool))(akK:Option d'×Option Int->A Bool)(akL:Option dQ×Option (Option d')×Option Int×Option (Int->A Int)->A (Int×Bool))(x:aZ×Int×(Int->A Int)):A ((Int×Int)×Int):=
 A.bind (uc (x.1,λhy=>akK (hy,some x.2.1))) λy=>if decide (y.2≠0)=true then A.pure ((0,0),y.2) else A.bind (D6 (y.1,λhy=>akL (hy,some y.1,some x.2.1,some x.2.2))) λy=>if (!y.2)=true then A.pure ((0,0),3) else A.pure (y.1,0)
def WB(HR:pC×Int->A Int)(x:Int×Option aZ):A Int:=
 A.bind (HR ((Option.getD x.2 ([],[],[],[],0,0,0,0,0,0,0)).2.2.2.2,x.1)) λy=>A.pure y
def WC(x:pC×Int):A Int:=
 letI c:=x.1.2;letI b:=IntKind.wrap .i64 (x.2-x.1.1);letI a:=IntKind.wrap .i64 (c.2.1*IntKind.wrap .i64 (Int.tdiv (IntKind.wrap .i64 (IntKind.wrap .i64 (Add.add (if b > 0 then b else 0) c.1)-1)) c.1));if decide (x.2>=c.2.2.2.1)=true then A.pure x.1.db else A.ab (c.1≠0) (A.pure (if a<c.2.2.1 then a else c.2.2.1))
def akM(x:Int):A Int:=
 A.pure x
def WD(D7:Int->A Bool)(x:Option d'×Option Int):A Bool:=
 A.bind (D7 (Option.getD x.2 0)) λy=>A.pure y
def WE(x:Option d'×(Option dQ->A (Int×Bool))):A ((Int×Int)×Bool):=
 letI b:=(Option.getD x.1 (([],[],[],[],0,0,0,0,0,0,0),[],[])).2.2;A.bind (A.ab (Option.isSome x.1=true) (A.loop (λ(D:(Option dQ->A (Int×Bool))×Bool×List (Option dQ)×Int×Int×(Int×Int)×Unit)=>letI c:=D.2.2;letI a:=c.2.2.1;if decide (a<c.2.1)=true then A.bind (A.ab (0<=a/\a<Int.ofNat (List.length c.1)) (A.bind (D.1 (List.getD c.1 (Int.toNat a) none)) (λy=>if (!y.2)=true then A.pure (V.next (D.1,D.2.1,c.1,c.2.1,a,D.db,())) else if (!D.2.1)=true then A.pure (V.next (D.1,true,c.1,c.2.1,a,(y.1,y.1),())) else A.pure (V.next (D.1,D.2.1,c.1,c.2.1,a,(if y.1<D.db.1 then y.1 else D.db.1,if y.1 > D.db.2 then y.1 else D.db.2),()))))) (V.bz (λ(D:(Option dQ->A (Int×Bool))×Bool×List (Option dQ)×Int×Int×(Int×Int)×Unit)=>A.pure (V.next (D.1,D.2.1,D.2.2.1,D.2.2.2.1,IntKind.wrap .i64 (Add.add D.2.2.2.2.1 1),D.db,())))) else A.bind (A.pure (V.next (D.2.1,D.db,()))) λr=>A.pure (V.done r)) (x.2,false,b,Int.ofNat (List.length b),0,(0,0),()))) (V.bz (λ(D:Bool×(Int×Int)×Unit)=>A.pure (D.2.1,D.1)))
def WG(D4:Option dQ×Int×Int->A (bA×Bool))(x:Option dQ×Option Int×Option aZ):A (Int×Bool):=
 A.bind (A.loop (λ(D:Option dQ×Int×aZ×Int×Int×Unit)=>letI a:=D.2.2.2;if decide (a.2.1<10)=true then A.bind (A.bind (D4 (D.1,a.2.1,D.2.1)) (λy=>if y.2=true then A.pure (V.next (D.1,D.2.1,D.2.2.1,IntKind.wrap .i64 (Add.add a.1 D.2.2.1.2.2.2.2.2.2.2.2.2.2),a.2.1,())) else A.pure (V.next (D.1,D.2.1,D.2.2.1,a.1,a.2.1,())))) (V.bz (λ(D:Option dQ×Int×aZ×Int×Int×Unit)=>A.pure (V.next (D.1,D.2.1,D.2.2.1,D.2.2.2.1,IntKind.wrap .i64 (Add.add D.2.2.2.2.1 1),())))) else A.bind (A.pure (V.next (a.1,()))) λr=>A.pure (V.done r)) (x.1,Option.getD x.2.1 0,Option.getD x.2.2 ([],[],[],[],0,0,0,0,0,0,0),0,0,())) (V.bz (λ(D:Int×Unit)=>A.pure (D.1,true)))
def WH(Aw:Int->A Bool)(x:Option d'×Option Int):A Bool:=
 A.bind (Aw (Option.getD x.2 0)) λy=>A.pure y
def WI(jv:Int×Int×Int->A Bool)(x:Int):A Bool:=
 A.bind (jv (x,0,99)) λy=>A.pure y
def WJ(HR:pC×Int->A Int)(Oi:Option d'×Option dQ->A (List bA->Prop))(x:Option dQ×Option (Option d')×Option Int×Option aZ):A (Int×Bool):=
 A.bind (Oi (Option.getD x.2.1 none,x.1)) λy=>A.bind (A.any y) λL=>A.bind (jN (λ(D:Int×aZ×Int×Unit) (y:a_×Int)=>letI a:=(D.2.1.2.2.2.2,y.2);A.bind (if decide (y.1.2.2.2.2.2=D.1)=true then A.ab (HR a).ck (A.pure (dj.normal,IntKind.wrap .i64 (Add.add D.2.2.1 (A.val (HR a) 0)),())) else A.pure (dj.normal,D.2.2.1,())) λp=>A.pure (p.1,D.1,D.2.1,p.2.1,())) L (Option.getD x.2.2.1 0,Option.getD x.2.2.2 ([],[],[],[],0,0,0,0,0,0,0),0,())) λp=>sg (A.pure (p.2.2.2.1,true)) (λid=>if id=0 then A.pure (p.2.2.2.1,true) else A.fail) A.fail p.1
def akN(akO:Option (Option dQ)×Option (Option d')->List bA->Prop)(x:Option d'×Option dQ):A (List bA->Prop):=
 A.pure (akO (some x.2,some x.1))
def WK(jv:Int×Int×Int->A Bool)(Oj:List a_×(Int×Int×Int×Int×Int×Int->A Bool)->A Bool)(akP:Int×Int×Int×Int×Int×Int×Int->A Bool)(N6:z1'×(Int->A Bool)->A Bool)(akQ:a_×Option aZ->A Bool)(akR:Int->A Bool)(x:aZ):A Bool:=
 letI k:=Int.ofNat (List.length x.1);letI d:=decide (k > 3)||decide (Int.ofNat (List.length x.2.1) > 12)||decide (Int.ofNat (List.length x.2.2.1) > 12)||decide (Int.ofNat (List.length x.2.2.2.1) > 4);A.bind (cq (!d) (akP x.2.2.2.2) false) λy=>if (d||!y)=true then A.pure false else A.bind (A.loop (λ(D:z4'×Int×Int×aZ×Unit)=>letI l:=D.2.2.1;letI e:=List.getD D.1 (Int.toNat l) (0,0);if decide (l<D.2.1)=true then A.ab (0<=l/\l<Int.ofNat (List.length D.1)) (A.bind (jv (e.1,-30,e.2)) (λy=>if (!y||decide (e.2 > 30))=true then A.bind (A.bind (A.pure false) (λr=>A.pure (V.done r))) λr=>A.pure (V.done r) else A.pure (V.next (D.1,D.2.1,IntKind.wrap .i64 (Add.add l 1),D.2.2.2.1,())))) else A.bind (A.pure (V.next (D.2.2.2.1,()))) λr=>A.pure (V.done r)) (x.1,k,0,x,())) (V.bz (λ(D:aZ×Unit)=>A.bind (A.loop (λ(D:z4'×Int×Int×aZ×Unit)=>letI m:=D.2.2.2.1;letI f:=D.2.2.1;letI j:=decide (f > 0);letI i:=IntKind.wrap .i64 (f-1);letI b:=List.getD D.1 (Int.toNat f) (0,0);letI a:=!(A.val (jv (b.1,0,b.2)) false)||decide (b.2 > 9999);letI h:=(!a)=true;letI c:=(!a&&j)=true;letI g:=c->c/\True/\True;if decide (f<D.2.1)=true then A.ab (0<=f/\f<Int.ofNat (List.length D.1)) (A.ab (jv (b.1,0,b.2)).ck (A.ab ((!(!(A.val (jv (b.1,0,b.2)) false)))=true->(!(!(A.val (jv (b.1,0,b.2)) false)))=true/\True/\True) (A.ab ((!(!(A.val (jv (b.1,0,b.2)) false)))=true->((!(!(A.val (jv (b.1,0,b.2)) false)))=true/\True)/\True/\True) (A.ab (True/\((!(A.val (jv (b.1,0,b.2)) false))=false->(!(!(A.val (jv (b.1,0,b.2)) false)))=true)) (A.ab (h->(h/\True)/\True/\True) (A.ab (h->True/\True/\h) (A.ab g (A.ab g (A.ab (c->(c/\True)/\True/\True) (A.ab (c->(c/\c)/\(0<=i/\i<Int.ofNat (List.length m.2.2.2.1))/\True) (A.ab g (A.ab g (A.ab (c->(c/\c)/\True/\True) (A.ab (h->(h/\(j=true->c))/\True/\True) (A.ab (True/\(a=false->h)) (if (a||j&&decide (b.1<=(List.getD m.2.2.2.1 (Int.toNat i) (0,0)).2))=true then A.bind (A.bind (A.pure false) (λr=>A.pure (V.done r))) λr=>A.pure (V.done r) else A.pure (V.next (D.1,D.2.1,IntKind.wrap .i64 (Add.add f 1),m,())))))))))))))))))) else A.bind (A.pure (V.next (m,()))) λr=>A.pure (V.done r)) (D.1.2.2.2.1,Int.ofNat (List.length D.1.2.2.2.1),0,D.1,())) (V.bz (λ(D:aZ×Unit)=>A.bind (Oj (D.1.2.1,λx=>akQ (x,some D.1))) λy=>A.bind (cq (!y) (N6 (D.1.2.2.1,akR)) false) λb3=>A.pure (!y&&!b3)))))
def akS(D5:(z1'->Prop)->A (z1'))(Ol:List (Int×a_)->A (z1'->Prop))(x:List a_):A (List a_×Bool):=
 A.bind (A.loop (λ(D:List a_×Int×Int×List (Int×a_)×Unit)=>letI e:=D.2.2;letI b:=List.getD D.1 (Int.toNat e.1) (0,0,0,0,0,0);letI c:=Option.map (λx=>x.2) (List.find? (λp=>decide (b.1=p.1)) e.2.1);letI a:=Option.getD c (0,0,0,0,0,0);if decide (e.1<D.2.1)=true then A.ab (0<=e.1/\e.1<Int.ofNat (List.length D.1)) (if (Option.isSome c&&!(decide (a.1=b.1)&&(decide (a.2.1=b.2.1)&&(decide (a.2.2.1=b.2.2.1)&&(decide (a.2.2.2.1=b.2.2.2.1)&&(decide (a.2.2.2.2.1=b.2.2.2.2.1)&&decide (a.2.2.2.2.2=b.2.2.2.2.2)))))))=true then A.bind (A.bind (A.pure ([],false)) (λr=>A.pure (V.done r))) λr=>A.pure (V.done r) else A.pure (V.next (D.1,D.2.1,IntKind.wrap .i64 (Add.add e.1 1),kW e.2.1 b.1 b,()))) else A.bind (A.pure (V.next (e.2.1,()))) λr=>A.pure (V.done r)) (x,Int.ofNat (List.length x),0,[],())) (V.bz (λ(D:List (Int×a_)×Unit)=>A.bind (A.bind (Ol D.1) (λy=>A.bind (D5 y) λy=>A.loop (λ(D:z1'×Int×Int×List a_×List (Int×a_)×Unit)=>letI d:=D.2.2;if decide (d.1<D.2.1)=true then A.ab (0<=d.1/\d.1<Int.ofNat (List.length D.1)) (A.ab (bM (Add.add (List.length d.2.1) (Add.add 0 1))) (A.pure (V.next (D.1,D.2.1,IntKind.wrap .i64 (Add.add d.1 1),d.2.1++[Option.getD (Option.map (λx=>x.2) (List.find? (λp=>decide (List.getD D.1 (Int.toNat d.1) 0=p.1)) d.2.2.1)) (0,0,0,0,0,0)],d.2.2.1,())))) else A.bind (A.pure (V.next (d.2.1,()))) λr=>A.pure (V.done r)) (y,Int.ofNat (List.length y),0,[],D.1,()))) (V.bz (λ(D:List a_×Unit)=>A.pure (D.1,true)))))
def WL(f_:Int×Int×Int->A Bool)(akT:Int×Int×Int×Int×Int×Int×Int->A Bool)(WM:aZ×Int×Int×Int×Int×Int×Int->A Bool)(x:aZ):A Bool:=
 letI e:=decide (Int.ofNat (List.length x.1) > 3)||decide (Int.ofNat (List.length x.2.1) > 12)||decide (Int.ofNat (List.length x.2.2.1) > 12)||decide (Int.ofNat (List.length x.2.2.2.1) > 4);A.bind (cq (!e) (akT x.2.2.2.2) false) λy=>if (e||!y)=true then A.pure false else A.bind (A.loop (λ(D:Int×aZ×Unit)=>letI f:=D.1<Int.ofNat (List.length D.2.1.1);letI o:=0<=D.1/\f;letI b:=List.getD D.2.1.1 (Int.toNat D.1) (0,0);if decide f=true then A.ab o (A.ab o (A.ab (f_ (b.1,-30,b.2)).ck (A.ab ((!(!(A.val (f_ (b.1,-30,b.2)) false)))=true->(!(!(A.val (f_ (b.1,-30,b.2)) false)))=true/\True/\True) (A.ab ((!(!(A.val (f_ (b.1,-30,b.2)) false)))=true->((!(!(A.val (f_ (b.1,-30,b.2)) false)))=true/\(!(!(A.val (f_ (b.1,-30,b.2)) false)))=true)/\o/\True) (A.ab ((!(!(A.val (f_ (b.1,-30,b.2)) false)))=true->(!(!(A.val (f_ (b.1,-30,b.2)) false)))=true/\True/\True) (A.ab ((!(!(A.val (f_ (b.1,-30,b.2)) false)))=true->(!(!(A.val (f_ (b.1,-30,b.2)) false)))=true/\True/\True) (A.ab ((!(!(A.val (f_ (b.1,-30,b.2)) false)))=true->((!(!(A.val (f_ (b.1,-30,b.2)) false)))=true/\True)/\True/\True) (A.ab (True/\((!(A.val (f_ (b.1,-30,b.2)) false))=false->(!(!(A.val (f_ (b.1,-30,b.2)) false)))=true)) (if (!(A.val (f_ (b.1,-30,b.2)) false)||decide (b.2 > 30))=true then A.bind (A.bind (A.pure false) (λr=>A.pure (V.done r))) λr=>A.pure (V.done r) else A.pure (V.next (IntKind.wrap .i64 (Add.add D.1 1),D.2.1,()))))))))))) else A.bind (A.pure (V.next (D.2.1,()))) λr=>A.pure (V.done r)) (0,x,())) (V.bz (λ(D:aZ×Unit)=>A.bind (A.loop (λ(D:Int×aZ×Unit)=>letI m:=D.1<Int.ofNat (List.length D.2.1.2.1);letI h:=(D.2.1,List.getD D.2.1.2.1 (Int.toNat D.1) (0,0,0,0,0,0));if decide m=true then A.ab (0<=D.1/\m) (A.ab (WM h).ck (if (!(A.val (WM h) false))=true then A.bind (A.bind (A.pure false) (λr=>A.pure (V.done r))) λr=>A.pure (V.done r) else A.pure (V.next (IntKind.wrap .i64 (Add.add D.1 1),D.2.1,())))) else A.bind (A.pure (V.next (D.2.1,()))) λr=>A.pure (V.done r)) (0,D.1,())) (V.bz (λ(D:aZ×Unit)=>A.bind (A.loop (λ(D:Int×aZ×Unit)=>letI l:=D.1<Int.ofNat (List.length D.2.1.2.2.1);if decide l=true then A.ab (0<=D.1/\l) (A.bind (f_ (List.getD D.2.1.2.2.1 (Int.toNat D.1) 0,0,99)) (λy=>if (!y)=true then A.bind (A.bind (A.pure false) (λr=>A.pure (V.done r))) λr=>A.pure (V.done r) else A.pure (V.next (IntKind.wrap .i64 (Add.add D.1 1),D.2.1,())))) else A.bind (A.pure (V.next (D.2.1,()))) λr=>A.pure (V.done r)) (0,D.1,())) (V.bz (λ(D:aZ×Unit)=>A.bind (A.loop (λ(D:Int×aZ×Unit)=>letI p:=D.2.1.2.2.2.1;letI n:=decide (D.1 > 0);letI k:=IntKind.wrap .i64 (D.1-1);letI g:=Int.ofNat (List.length p);letI c:=List.getD p (Int.toNat D.1) (0,0);letI a:=!(A.val (f_ (c.1,0,c.2)) false)||decide (c.2 > 9999);letI j:=(!a)=true;letI d:=(!a&&n)=true;letI i:=d->d/\True/\True;if decide (D.1<g)=true then A.ab (0<=D.1/\D.1<g) (A.ab (f_ (c.1,0,c.2)).ck (A.ab ((!(!(A.val (f_ (c.1,0,c.2)) false)))=true->(!(!(A.val (f_ (c.1,0,c.2)) false)))=true/\True/\True) (A.ab ((!(!(A.val (f_ (c.1,0,c.2)) false)))=true->((!(!(A.val (f_ (c.1,0,c.2)) false)))=true/\True)/\True/\True) (A.ab (True/\((!(A.val (f_ (c.1,0,c.2)) false))=false->(!(!(A.val (f_ (c.1,0,c.2)) false)))=true)) (A.ab (j->(j/\True)/\True/\True) (A.ab (j->True/\True/\j) (A.ab i (A.ab i (A.ab (d->(d/\True)/\True/\True) (A.ab (d->(d/\d)/\(0<=k/\k<g)/\True) (A.ab i (A.ab i (A.ab (d->(d/\d)/\True/\True) (A.ab (j->(j/\(n=true->d))/\True/\True) (A.ab (True/\(a=false->j)) (if (a||n&&decide (c.1<=(List.getD p (Int.toNat k) (0,0)).2))=true then A.bind (A.bind (A.pure false) (λr=>A.pure (V.done r))) λr=>A.pure (V.done r) else A.pure (V.next (IntKind.wrap .i64 (Add.add D.1 1),D.2.1,())))))))))))))))))) else A.bind (A.pure (V.next ())) λr=>A.pure (V.done r)) (0,D.1,())) (V.bz (λ(D:Unit)=>A.pure true))))))))
def WN(x:a_×Int×Int×Int×Int×Int×Int):A Bool:=
 letI a:=decide (x.1.1=x.2.1);A.pure (a&&!(a&&(decide (x.1.2.1=x.2.2.1)&&(decide (x.1.2.2.1=x.2.2.2.1)&&(decide (x.1.2.2.2.1=x.2.2.2.2.1)&&(decide (x.1.2.2.2.2.1=x.db)&&decide (x.1.2.2.2.2.2=x.2.2.2.2.2.2)))))))
def WO(ls:Int×Int×Int->A Bool)(x:Int×Int×Int):A Bool:=
 A.bind (ls x) λy=>A.pure y
def akU(D7:Int->A Bool)(x:Option d'×Option Int):A Bool:=
 A.bind (D7 (Option.getD x.2 0)) λy=>A.pure y
def WQ(x:aZ×Int×Int):A Int:=
 A.bind (A.loop (λ(D:Int×Int×Int×z4'×Int×Int×Unit)=>letI c:=D.2.2.2;letI b:=IntKind.wrap .i64 (D.2.1-1);letI a:=List.getD c.1 (Int.toNat D.db) (0,0);if decide (D.db<c.2.1)=true then A.ab (0<=D.db/\D.db<Int.ofNat (List.length c.1)) (A.pure (V.next (D.1,D.2.1,IntKind.wrap .i64 (D.2.2.1-(if IntKind.wrap .i64 (Add.add (IntKind.wrap .i64 ((if b<a.2 then b else a.2)-(if D.1 > a.1 then D.1 else a.1))) 1) > 0 then IntKind.wrap .i64 (Add.add (IntKind.wrap .i64 ((if b<a.2 then b else a.2)-(if D.1 > a.1 then D.1 else a.1))) 1) else 0)),c.1,c.2.1,IntKind.wrap .i64 (Add.add D.db 1),()))) else A.bind (A.pure (V.next (D.2.2.1,()))) λr=>A.pure (V.done r)) (x.2.1,x.2.2,IntKind.wrap .i64 (x.2.2-x.2.1),x.1.2.2.2.1,Int.ofNat (List.length x.1.2.2.2.1),0,())) (V.bz (λ(D:Int×Unit)=>A.pure D.1))
def WR(x:z4'):A (z4'):=
 A.bind (A.any (λb=>b=true->x=[])) λy=>if y=true then A.pure [] else A.ab (bM (Add.add 0 (List.length x))) (A.pure ([]++x))
def WS(hL:z1'×Int->A Bool)(x:a_×Option aZ):A Bool:=
 A.bind (hL ((Option.getD x.2 ([],[],[],[],0,0,0,0,0,0,0)).2.2.1,x.1.1)) λy=>A.pure y
def WT(Oj:List a_×(Int×Int×Int×Int×Int×Int->A Bool)->A Bool)(akV:a_×Option Int->A Bool)(x:Option d'×Option Int):A Bool:=
 A.ab (Option.isSome x.1=true) (A.bind (Oj ((Option.getD x.1 (([],[],[],[],0,0,0,0,0,0,0),[],[])).2.1,λhy=>akV (hy,some (Option.getD x.2 0)))) (λy=>A.pure y))
def akW(Om:List a_×(Int×Int×Int×Int×Int×Int->A Bool)->A Int)(x:List a_×(Int×Int×Int×Int×Int×Int->A Bool)):A Bool:=
 A.bind (Om x) λy=>A.pure (decide (y>=0))
def akX(x:a_×Option Int):A Bool:=
 A.pure (decide (x.1.1=Option.getD x.2 0)&&decide (x.1.2.2.2.1=1))
def WU(Oi:Option d'×Option dQ->A (List bA->Prop))(x:Option dQ×Option (Option d')×Option Int×Option (Int->A Int)):A (Int×Bool):=
 A.bind (Oi (Option.getD x.2.1 none,x.1)) λy=>A.bind (A.any y) λL=>A.bind (jN (λ(D:Int×(Int->A Int)×Int×Bool×Unit) (y:a_×Int)=>A.bind (if decide (y.1.1=D.1)=true then A.bind (D.2.1 y.2) λy=>A.pure (dj.ret,y,true,()) else A.pure (dj.normal,D.2.2.1,D.2.2.2.1,())) λp=>A.pure (p.1,D.1,D.2.1,p.2.1,p.2.2.1,())) L (Option.getD x.2.2.1 0,Option.getD x.2.2.2 λx=>{ ck:=False,bL:=λx=>False },0,false,())) λp=>sg (A.pure (0,false)) (λid=>if id=0 then A.pure (0,false) else A.fail) (A.pure (p.2.2.2.1,p.2.2.2.2.1)) p.1
def WV(jv:Int×Int×Int->A Bool)(x:Int×Int×Int×Int×Int×Int×Int):A Bool:=
 A.bind (A.loop (λ(D:Int×Int×pC×z1'×Unit)=>letI a:=D.2;if decide (a.1<D.1)=true then A.ab (0<=a.1/\a.1<Int.ofNat (List.length a.2.2.1)) (A.bind (jv (List.getD a.2.2.1 (Int.toNat a.1) 0,0,100000)) (λy=>if (!y)=true then A.bind (A.bind (A.pure false) (λr=>A.pure (V.done r))) λr=>A.pure (V.done r) else A.pure (V.next (D.1,IntKind.wrap .i64 (Add.add a.1 1),a.2.1,a.2.2.1,())))) else A.bind (A.pure (V.next (a.2.1,()))) λr=>A.pure (V.done r)) (Int.ofNat (Add.add (Add.add (Add.add (Add.add 0 1) 1) 1) 1),0,x,[x.2.2.1,x.2.2.2.1,x.db,x.2.2.2.2.2.2],())) (V.bz (λ(D:pC×Unit)=>A.bind (jv (D.1.1,0,9999)) λy=>A.bind (cq y (jv (D.1.2.1,1,9999)) false) λb3=>A.bind (cq (y&&b3) (jv (D.1.2.2.2.2.1,1,9999)) false) λdC=>A.pure (y&&b3&&dC)))
def WW(akY:aZ×Int×Int×Int×Int×Int×Int->A Bool)(x:a_×Option aZ):A Bool:=
 A.bind (akY (Option.getD x.2 ([],[],[],[],0,0,0,0,0,0,0),x.1)) λy=>A.pure (!y)
def WX(jv:Int×Int×Int->A Bool)(Aw:Int->A Bool)(x:aZ×Int×Int×Int×Int×Int×Int):A Bool:=
 letI c:=x.2.2.2.2;letI a:=decide (c.1=1)||decide (c.1=2)&&decide (c.2.2=0);A.bind (cq a (Aw x.2.1) false) λy=>A.bind (cq (a&&y) (Aw c.2.2) false) λb3=>A.bind (cq (a&&y&&b3) (jv (x.2.2.1,0,IntKind.wrap .i64 (Int.ofNat (List.length x.1.1)-1))) false) λdC=>letI b:=a&&y&&b3&&dC;A.bind (cq b (jv (x.2.2.2.1,0,9999)) false) λgD=>A.bind (cq (b&&gD) (jv (x.db,0,9)) false) λlu=>A.pure (b&&gD&&lu)
def WY(Aw:Int->A Bool)(x:Int):A Bool:=
 A.bind (Aw x) λy=>A.pure (!y)
def akZ(ak0:Option (List (Int×a_))->z1'->Prop)(x:List (Int×a_)):A (z1'->Prop):=
 A.pure (ak0 (some x))
def WZ(f_:Int×Int×Int->A Bool)(x:Int×Int×Int×Int×Int×Int×Int):A Bool:=
 A.bind (f_ (x.1,0,9999)) λy=>A.bind (cq y (f_ (x.2.1,1,9999)) false) λb3=>A.bind (cq (y&&b3) (f_ (x.2.2.2.2.1,1,9999)) false) λdC=>A.bind (cq (y&&b3&&dC) (f_ (x.2.2.1,0,100000)) false) λgD=>letI a:=y&&b3&&dC&&gD;A.bind (cq a (f_ (x.2.2.2.1,0,100000)) false) λlu=>A.bind (cq (a&&lu) (f_ (x.db,0,100000)) false) λvC=>A.bind (cq (a&&lu&&vC) (f_ (x.2.2.2.2.2.2,0,100000)) false) λAr=>A.pure (a&&lu&&vC&&Ar)
def W0(f_:Int×Int×Int->A Bool)(x:aZ×Int×Int×Int×Int×Int×Int):A Bool:=
 letI b:=x.2.2.2.2;A.bind (f_ (x.2.1,0,99)) λy=>A.bind (cq (!(!y)) (f_ (x.2.2.1,0,IntKind.wrap .i64 (Int.ofNat (List.length x.1.1)-1))) false) λb3=>A.bind (cq (!(!y||!b3)) (f_ (x.2.2.2.1,0,9999)) false) λdC=>letI a:=!y||!b3||!dC;A.bind (cq (!a) (f_ (x.db,0,9)) false) λgD=>A.bind (cq (!(a||!gD)) (f_ (b.2.2,0,99)) false) λlu=>if (a||!gD||!lu)=true then A.pure false else A.pure (decide (b.1=1)||decide (b.1=2)&&decide (b.2.2=0))
def W1(ayc:Int->A Int)(ak1:Int->A Int)(x:Int):A Int:=
 A.bind (ak1 x) λy=>A.pure y
def ak2(x:List a_×(Int×Int×Int×Int×Int×Int->A Bool)):A Int:=
 A.bind (A.loop (λ(D:List a_×(Int×Int×Int×Int×Int×Int->A Bool)×Int×Int×Unit)=>letI a:=D.2.2.2.1;if decide (a<D.2.2.1)=true then A.ab (0<=a/\a<Int.ofNat (List.length D.1)) (A.bind (D.2.1 (List.getD D.1 (Int.toNat a) (0,0,0,0,0,0))) (λy=>if y=true then A.bind (A.bind (A.pure a) (λr=>A.pure (V.done r))) λr=>A.pure (V.done r) else A.pure (V.next (D.1,D.2.1,D.2.2.1,IntKind.wrap .i64 (Add.add a 1),())))) else A.bind (A.pure (V.next ())) λr=>A.pure (V.done r)) (x.1,x.2,Int.ofNat (List.length x.1),0,())) (V.bz (λ(D:Unit)=>A.pure (-1)))
def D8(x:Int):A Int:=
 A.bind (if decide (x>=4294967296)=true then A.ab ((0:Int)<=32) (A.pure (V.next (ji .u64 x 32,32,()))) else A.pure (V.next (x,0,()))) (V.bz (λ(D:Int×Int×Unit)=>A.bind (if decide (D.1>=65536)=true then A.ab ((0:Int)<=16) (A.pure (V.next (ji .u64 D.1 16,IntKind.wrap .i64 (Add.add D.2.1 16),()))) else A.pure (V.next (D.1,D.2.1,()))) (V.bz (λ(D:Int×Int×Unit)=>A.bind (if decide (D.1>=256)=true then A.ab ((0:Int)<=8) (A.pure (V.next (ji .u64 D.1 8,IntKind.wrap .i64 (Add.add D.2.1 8),()))) else A.pure (V.next (D.1,D.2.1,()))) (V.bz (λ(D:Int×Int×Unit)=>letI a:=IntKind.wrap .u8 D.1;A.ab (0<=a/\a<Int.ofNat 256) (A.pure (IntKind.wrap .i64 (Add.add D.2.1 (IntKind.wrap .i64 (Int.ofNat (List.getD akq (Int.toNat a) 0).1.1.1)))))))))))
def W2(x:z1'):A (z1'):=
 A.bind (A.any (λb=>b=true->x=[])) λy=>if y=true then A.pure [] else A.ab (bM (Add.add 0 (List.length x))) (A.pure ([]++x))
def W3(ak3:Int×Int->A Int)(x:bA×a_×Int):A Int:=
 A.bind (ak3 (x.1.2,x.2.2)) λy=>A.pure y
def W4(W5:Int->A Bool)(x:Int×Int):A Int:=
 A.bind (W5 x.1) λy=>A.bind (W5 x.2) λb3=>if y=true then if b3=true then A.pure 0 else A.pure (-1) else if b3=true then A.pure 1 else if decide (x.1<x.2)=true then A.pure (-1) else if decide (x.1 > x.2)=true then A.pure 1 else A.pure 0
def W6(x:Int):A Bool:=
 A.pure (decide (x≠x))
def W7(x:(z1'->Prop)×Unit):A (z1'×Unit):=
 A.bind (A.any x.1) λL=>A.bind (jN (λ(D:z1'×Unit) (y:Int)=>A.bind (A.ab (bM (Add.add (List.length D.1) (Add.add 0 1))) (A.pure (dj.normal,D.1++[y],()))) λp=>A.pure (p.1,p.2.1,())) L ([],())) λp=>sg (A.pure (p.2.1,())) (λid=>if id=0 then A.pure (p.2.1,()) else A.fail) A.fail p.1
def W8(ak4:(z1'->Prop)×Unit->A (z1'×Unit))(x:(z1'->Prop)×Unit):A (z1'×Unit):=
 A.bind (ak4 (x.1,())) λy=>A.pure (y.1,())
def W9(Om:List a_×(Int×Int×Int×Int×Int×Int->A Bool)->A Int)(x:(Int×Int×Int×Int×Int×Int->A Bool)×List a_×Unit):A ((Nat×Nat)×List a_×Unit):=
 A.bind (Om (x.2.1,x.1)) λy=>if decide (y=-1)=true then A.pure ((0,List.length x.2.1),x.2.1,()) else A.bind (A.loop (λ(D:(Int×Int×Int×Int×Int×Int->A Bool)×Int×Int×List a_×Unit)=>letI g:=D.2.1;letI f:=D.2.2;letI e:=List.getD f.2.1 (Int.toNat f.1) (0,0,0,0,0,0);letI c:=Int.ofNat (List.length f.2.1);if decide (f.1<c)=true then A.bind (A.ab (0<=f.1/\f.1<c) (A.bind (D.1 e) (λy=>if (!y)=true then A.ab (0<=g/\g<c) (A.pure (V.next (D.1,IntKind.wrap .i64 (Add.add g 1),f.1,List.set f.2.1 (Int.toNat g) e,()))) else A.pure (V.next (D.1,g,f.1,f.2.1,()))))) (V.bz (λ(D:(Int×Int×Int×Int×Int×Int->A Bool)×Int×Int×List a_×Unit)=>A.pure (V.next (D.1,D.2.1,IntKind.wrap .i64 (Add.add D.2.2.1 1),D.2.2.2.1,())))) else A.bind (A.pure (V.next (g,f.2.1,()))) λr=>A.pure (V.done r)) (x.1,y,IntKind.wrap .i64 (Add.add y 1),x.2.1,())) (V.bz (λ(D:Int×List a_×Unit)=>letI d:=Int.toNat D.1;letI b:=Int.ofNat (List.length D.2.1);letI a:=List.take d D.2.1++List.replicate (Int.toNat b-d) (0,0,0,0,0,0)++List.drop (Add.add d (List.length (List.replicate (Int.toNat b-d) ((0,0,0,0,0,0):a_)))) D.2.1;A.ab (0<=D.1/\D.1<=b/\b<=b) (A.ab True (A.ab ((0:Int)<=0/\0<=D.1/\D.1<=Int.ofNat (List.length a)) (A.pure ((Int.toNat 0,d),a,()))))))
def HS(Au:aZ×Int×Int->A Int)(x:Nat×Option dQ×Option d'×(Nat×(List bA->Prop)×List bA×Bool)×Unit):A ((Nat×(List bA->Prop)×List bA×Bool)×Unit):=
 A.ab (Option.isSome x.2.1=true) (A.loop (λ(D:Nat×Option d'×List (List bA)×Int×(Nat×(List bA->Prop)×List bA×Bool)×Unit)=>letI g:=D.2.2.2;if decide (g.1<10)=true then A.bind (A.ab (0<=g.1/\g.1<Int.ofNat 10) (A.loop (λ(D:Nat×Option d'×List bA×Int×List (List bA)×Int×(Nat×(List bA->Prop)×List bA×Bool)×Unit)=>letI h:=D.ft;letI f:=D.2.2;letI d:=Int.ofNat (List.length f.1);letI i:=0<=f.2.1/\f.2.1<d;letI c:=IntKind.wrap .i64 (Add.add f.2.1 1);letI b:=List.getD f.1 (Int.toNat f.2.1) ((0,0,0,0,0,0),0);letI a:=((Option.getD D.2.1 (([],[],[],[],0,0,0,0,0,0,0),[],[])).1,b.2,(List.getD f.1 (Int.toNat c) ((0,0,0,0,0,0),0)).2);if decide (c<d)=true then A.ab i (A.ab (Option.isSome D.2.1=true) (A.ab i (A.ab (0<=c/\c<d) (A.ab (Au a).ck (A.bind (A.ab (D.1=h.1/\h.2.2.2=false/\(∃ (T:List bA),h.2.1 (h.2.2.1++(b.1,A.val (Au a) 0)::T))) (A.any (λx=>True))) (λy=>letI e:=(h.1,h.2.1,h.2.2.1++[(b.1,A.val (Au a) 0)],!y);if (!y)=true then A.bind (A.bind (A.bind (A.pure (e,())) (λr=>A.pure (V.done r))) (λr=>A.pure (V.done r))) λr=>A.pure (V.done r) else A.pure (V.next (D.1,D.2.1,f.1,IntKind.wrap .i64 (Add.add f.2.1 2),f.2.2.1,D.db,e,())))))))) else A.bind (A.pure (V.next (D.1,D.2.1,f.2.2.1,D.db,h,()))) λr=>A.pure (V.done r)) (D.1,D.2.1,List.getD D.2.2.1 (Int.toNat g.1) [],0,D.2.2.1,g.1,g.2.1,()))) (V.bz (λ(D:Nat×Option d'×List (List bA)×Int×(Nat×(List bA->Prop)×List bA×Bool)×Unit)=>A.pure (V.next (D.1,D.2.1,D.2.2.1,IntKind.wrap .i64 (Add.add D.2.2.2.1 1),D.2.2.2.2.1,())))) else A.bind (A.pure (g.2.1,())) λr=>A.pure (V.done r)) (x.1,x.2.2.1,(Option.getD x.2.1 ([],[[],[],[],[],[],[],[],[],[],[]])).2,0,x.2.2.2.1,()))
def W_(x:Int×Int×(bA×a_×Int->A Int)×List bA×Unit):A (List bA×Unit):=
 A.loop (λ(D:Int×Int×(bA×a_×Int->A Int)×Int×List bA×Unit)=>letI i:=D.2.2.2;if decide (i.1<D.2.1)=true then A.bind (A.loop (λ(D:Int×Int×(bA×a_×Int->A Int)×Int×Int×List bA×Unit)=>letI k:=D.2.2;letI d:=Int.ofNat (List.length D.db);letI c:=k.2.2.1;letI j:=0<=c/\c<d;letI g:=decide (c > D.1);letI f:=List.getD D.db (Int.toNat c) ((0,0,0,0,0,0),0);letI b:=IntKind.wrap .i64 (c-1);letI e:=List.getD D.db (Int.toNat b) ((0,0,0,0,0,0),0);letI h:=List.set D.db (Int.toNat c) e;letI a:=g=true;letI l:=a->a/\True/\True;A.ab (a->(a/\a)/\j/\True) (A.ab l (A.ab (a->(a/\True)/\True/\True) (A.ab (a->(a/\a)/\(0<=b/\b<d)/\True) (A.ab l (A.ab (a->a/\a/\a/\True) (A.bind (cq g (k.1 (f,e)) 0) (λy=>if (g&&decide (y<0))=true then A.ab (0<=b/\b<d) (A.ab j (A.ab j (A.ab (0<=b/\b<Int.ofNat (List.length h)) (A.pure (V.next (D.1,D.2.1,k.1,k.2.1,b,List.set h (Int.toNat b) f,())))))) else A.bind (A.pure (V.next (D.1,D.2.1,k.1,k.2.1,D.db,()))) λr=>A.pure (V.done r))))))))) (D.1,D.2.1,D.2.2.1,i.1,i.1,i.2.1,())) (V.bz (λ(D:Int×Int×(bA×a_×Int->A Int)×Int×List bA×Unit)=>A.pure (V.next (D.1,D.2.1,D.2.2.1,IntKind.wrap .i64 (Add.add D.2.2.2.1 1),D.2.2.2.2.1,())))) else A.bind (A.pure (i.2.1,())) λr=>A.pure (V.done r)) (x.1,x.2.1,x.2.2.1,IntKind.wrap .i64 (Add.add x.1 1),x.2.2.2.1,())
def On(x:Nat×z4'×(Nat×(z1'->Prop)×z1'×Bool)×Unit):A ((Nat×(z1'->Prop)×z1'×Bool)×Unit):=
 A.bind (A.pure ()) λy=>A.loop (λ(D:Nat×(Nat×(z1'->Prop)×z1'×Bool)×(Option (Int×Int)×z4')×Unit)=>letI c:=D.2.1;letI b:=D.2.2.1;A.bind (Gt b.2) λy=>if Option.isSome y=true then A.bind (A.ab (Option.isSome (nU b.1 b.2 y)=true) (A.pure ())) λb3=>A.bind (A.ab (D.1=c.1/\c.2.2.2=false/\(∃ (T:z1'),c.2.1 (c.2.2.1++Option.getD (Option.map (λx=>x.1) (nU b.1 b.2 y)) 0::T))) (A.any (λx=>True))) λdC=>letI a:=(c.1,c.2.1,c.2.2.1++[Option.getD (Option.map (λx=>x.1) (nU b.1 b.2 y)) 0],!dC);if (!dC)=true then A.bind (A.pure (a,())) λr=>A.pure (V.done r) else A.pure (V.next (D.1,a,(nU b.1 b.2 y,CV b.2 y),())) else A.bind (A.pure (c,())) λr=>A.pure (V.done r)) (x.1,x.2.2.1,(none,x.2.1),())
def Oo(x:Nat×List (Int×a_)×(Nat×(z1'->Prop)×z1'×Bool)×Unit):A ((Nat×(z1'->Prop)×z1'×Bool)×Unit):=
 A.bind (A.pure ()) λy=>A.loop (λ(D:Nat×(Nat×(z1'->Prop)×z1'×Bool)×(Option pC×List (Int×a_))×Unit)=>letI c:=D.2.1;letI b:=D.2.2.1;A.bind (Gt b.2) λy=>if Option.isSome y=true then A.bind (A.ab (Option.isSome (nU b.1 b.2 y)=true) (A.pure ())) λb3=>A.bind (A.ab (D.1=c.1/\c.2.2.2=false/\(∃ (T:z1'),c.2.1 (c.2.2.1++Option.getD (Option.map (λx=>x.1) (nU b.1 b.2 y)) 0::T))) (A.any (λx=>True))) λdC=>letI a:=(c.1,c.2.1,c.2.2.1++[Option.getD (Option.map (λx=>x.1) (nU b.1 b.2 y)) 0],!dC);if (!dC)=true then A.bind (A.pure (a,())) λr=>A.pure (V.done r) else A.pure (V.next (D.1,a,(nU b.1 b.2 y,CV b.2 y),())) else A.bind (A.pure (c,())) λr=>A.pure (V.done r)) (x.1,x.2.2.1,(none,x.2.1),())
def ak5(D5:(z1'->Prop)->A (z1'))(Ol:List (Int×a_)->A (z1'->Prop))(x:List a_×Unit):A (Bool×List a_×Unit):=
 A.bind (A.loop (λ(D:List a_×Int×Int×List (Int×a_)×Unit)=>letI e:=D.2.2;letI b:=List.getD D.1 (Int.toNat e.1) (0,0,0,0,0,0);letI c:=Option.map (λx=>x.2) (List.find? (λp=>decide (b.1=p.1)) e.2.1);letI a:=Option.getD c (0,0,0,0,0,0);if decide (e.1<D.2.1)=true then A.ab (0<=e.1/\e.1<Int.ofNat (List.length D.1)) (if (Option.isSome c&&!(decide (a.1=b.1)&&(decide (a.2.1=b.2.1)&&(decide (a.2.2.1=b.2.2.1)&&(decide (a.2.2.2.1=b.2.2.2.1)&&(decide (a.2.2.2.2.1=b.2.2.2.2.1)&&decide (a.2.2.2.2.2=b.2.2.2.2.2)))))))=true then A.bind (A.bind (A.pure (false,[],())) (λr=>A.pure (V.done r))) λr=>A.pure (V.done r) else A.pure (V.next (D.1,D.2.1,IntKind.wrap .i64 (Add.add e.1 1),kW e.2.1 b.1 b,()))) else A.bind (A.pure (V.next (e.2.1,()))) λr=>A.pure (V.done r)) (x.1,Int.ofNat (List.length x.1),0,[],())) (V.bz (λ(D:List (Int×a_)×Unit)=>A.bind (A.bind (Ol D.1) (λy=>A.bind (D5 y) λy=>A.loop (λ(D:z1'×Int×Int×List a_×List (Int×a_)×Unit)=>letI d:=D.2.2;if decide (d.1<D.2.1)=true then A.ab (0<=d.1/\d.1<Int.ofNat (List.length D.1)) (A.ab (bM (Add.add (List.length d.2.1) (Add.add 0 1))) (A.pure (V.next (D.1,D.2.1,IntKind.wrap .i64 (Add.add d.1 1),d.2.1++[Option.getD (Option.map (λx=>x.2) (List.find? (λp=>decide (List.getD D.1 (Int.toNat d.1) 0=p.1)) d.2.2.1)) (0,0,0,0,0,0)],d.2.2.1,())))) else A.bind (A.pure (V.next (d.2.1,()))) λr=>A.pure (V.done r)) (y,Int.ofNat (List.length y),0,[],D.1,()))) (V.bz (λ(D:List a_×Unit)=>A.pure (true,D.1,())))))
abbrev lv:Type:=List bA×List bA×List bA×List bA×List bA×List bA×List bA×List bA×List bA×List bA×ho
def mw:Nat->lv->List bA
 | 0,r=>r.1
 | 1,r=>r.2.1
 | 2,r=>r.2.2.1
 | 3,r=>r.2.2.2.1
 | 4,r=>r.2.2.2.2.1
 | 5,r=>r.2.2.2.2.2.1
 | 6,r=>r.2.2.2.2.2.2.1
 | 7,r=>r.2.2.2.2.2.2.2.1
 | 8,r=>r.2.2.2.2.2.2.2.2.1
 | 9,r=>r.2.2.2.2.2.2.2.2.2.1
 | _,_=>[]
def HT:Nat->List bA->lv->lv
 | 0,v,r=>(v,r.2)
 | 1,v,r=>(r.1,v,r.2.2)
 | 2,v,r=>(r.1,r.2.1,v,r.2.2.2)
 | 3,v,r=>(r.1,r.2.1,r.2.2.1,v,r.2.2.2.2)
 | 4,v,r=>(r.1,r.2.1,r.2.2.1,r.2.2.2.1,v,r.2.2.2.2.2)
 | 5,v,r=>(r.1,r.2.1,r.2.2.1,r.2.2.2.1,r.2.2.2.2.1,v,r.2.2.2.2.2.2)
 | 6,v,r=>(r.1,r.2.1,r.2.2.1,r.2.2.2.1,r.2.2.2.2.1,r.2.2.2.2.2.1,v,r.2.2.2.2.2.2.2)
 | 7,v,r=>(r.1,r.2.1,r.2.2.1,r.2.2.2.1,r.2.2.2.2.1,r.2.2.2.2.2.1,r.2.2.2.2.2.2.1,v,r.2.2.2.2.2.2.2.2)
 | 8,v,r=>(r.1,r.2.1,r.2.2.1,r.2.2.2.1,r.2.2.2.2.1,r.2.2.2.2.2.1,r.2.2.2.2.2.2.1,r.2.2.2.2.2.2.2.1,v,r.2.2.2.2.2.2.2.2.2)
 | 9,v,r=>(r.1,r.2.1,r.2.2.1,r.2.2.2.1,r.2.2.2.2.1,r.2.2.2.2.2.1,r.2.2.2.2.2.2.1,r.2.2.2.2.2.2.2.1,r.2.2.2.2.2.2.2.2.1,v,r.2.2.2.2.2.2.2.2.2.2)
 | _,_,r=>r
abbrev W'(r:lv):ho:=r.2.2.2.2.2.2.2.2.2.2
def Oq{X:Type}(l:List bA)(x:bA)(i k:Int)(aK B:A X):A X:=
 letI z:=decide (i > 0);letI y:=IntKind.wrap .i64 (i-1);letI n:=decide (x.1.2.2.2.1≠k);letI m:=(!n)=true;letI b:=(!n&&z)=true;letI c:=b->b/\True/\True;A.ab (m->(m/\True)/\True/\True) (A.ab (m->True/\True/\m) (A.ab c (A.ab (b->(b/\True)/\True/\True) (A.ab (b->(b/\b)/\(0<=y/\y<Int.ofNat (List.length l))/\True) (A.ab c (A.ab c (A.ab (b->(b/\b)/\True/\True) (A.ab (m->(m/\(z=true->b))/\True/\True) (A.ab (True/\(n=false->m)) (if (n||z&&decide (x.2=(List.getD l (Int.toNat y) ((0,0,0,0,0,0),0)).2))=true then aK else B))))))))))
def HU(k:Nat)(D:Int×Int×Int×z1'×lv):A (V (Int×Int×Int×z1'×lv) (V (Int×z1'×lv) (V (z1'×lv) (Option dQ×Bool×ho)))):=
 letI i:=D.2.2.1;letI l:=mw k D.2.2.2.2;letI x:=List.getD l (Int.toNat i) ((0,0,0,0,0,0),0);if decide (i<D.2.1)=true then A.ab (0<=i/\i<Int.ofNat (List.length l)) (A.bind (A.ab ((2:Int)≠0) (if decide (Int.tmod i (2:Int)=1)=true then A.pure (V.next (i,2,D.1,D.2.1,i,x,D.2.2.2)) else A.pure (V.next (i,1,D.1,D.2.1,i,x,D.2.2.2)))) (V.bz (λ(bm:Int×Int×Int×Int×Int×bA×z1'×lv)=>letI r:=bm.2.2.2.2.2.2.2;Oq (mw k r) bm.2.2.2.2.2.1 bm.1 bm.2.1 (A.bind (A.bind (A.bind (A.pure (none,false,W' r)) (λr=>A.pure (V.done r))) (λr=>A.pure (V.done r))) λr=>A.pure (V.done r)) (A.pure (V.next (bm.2.2.1,bm.2.2.2.1,IntKind.wrap .i64 (Add.add bm.2.2.2.2.1 1),bm.2.2.2.2.2.2)))))) else A.bind (A.pure (V.next (D.1,D.2.2.2))) λr=>A.pure (V.done r)
def D9(Xa:(bA×a_×Int->A Int)×List bA×Unit->A (List bA×Unit))(Xb:bA×a_×Int->A Int):Nat->Nat->z1'×lv->A (V (z1'×lv) (Option dQ×Bool×ho))
 | 0,_,s=>A.pure (.next s)
 | n+1,k,s=>A.bind (A.ab (0<=Int.ofNat k/\Int.ofNat k<Int.ofNat 10) (A.bind (Xa (Xb,mw k s.2,())) (λy=>A.loop (HU k) (Int.ofNat k,Int.ofNat (List.length y.1),0,s.1,HT k y.1 s.2)))) (V.bz (λ(bm:Int×z1'×lv)=>A.ab (IntKind.wrap .i64 (Add.add bm.1 1)=Int.ofNat (k+1)) (D9 Xa Xb n (k+1) bm.2)))
def HV{X:Type}(f:Nat->A X)(v:Int):Nat->A X
 | 0=>f 0
 | n+1=>if v=Int.ofNat (Add.add n 1) then f (n+1) else HV f v n
def Xc{X:Type}(D:z1'×List a_×Int×Int×z1'×lv)(u:Nat):A (V (z1'×List a_×Int×Int×z1'×lv) X):=
 letI a:=List.getD D.2.1 (Int.toNat D.2.2.2.1) (0,0,0,0,0,0);letI r:=D.2.2.2.2.2;letI p:=0<=Int.ofNat u/\Int.ofNat u<Int.ofNat 10;A.ab True (A.ab p (A.ab (0<=a.2.1/\a.2.1<Int.ofNat (List.length D.1)) (A.ab (bM (Add.add (List.length (mw u r)) (Add.add 0 1))) (A.ab True (A.ab p (A.pure (V.next (D.1,D.2.1,D.2.2.1,D.2.2.2.1,D.2.2.2.2.1,HT u (mw u r++[((a.1,a.2.1,a.2.2.1,a.2.2.2.1,Int.ofNat u,a.2.2.2.2.2),IntKind.wrap .i64 (Add.add a.2.2.1 (List.getD D.1 (Int.toNat a.2.1) 0)))]) r))))))))
def Xd(ak6:z1'->A (z1'))(ak7:(bA×a_×Int->A Int)×List bA×Unit->A (List bA×Unit))(ak8:bA×a_×Int->A Int)(x:z1'×ho):A (Option dQ×Bool×ho):=
 A.bind (A.bind (ak6 x.1) (λy=>A.pure (V.next (x.1,y,x.2.1,x.2.2.1,x.2.2.2.1,x.2.2.2.2.1,x.db,x.ft,x.gM,x.ir,x.jS,x.kX,x.hN,x.nd,x.pD,[],[],[],[],[],[],[],[],[],[],())))) (V.bz (λ(D:z1'×z1'×z4'×List a_×z1'×z4'×Int×Int×Int×Int×Int×Int×Int×List a_×List (Option dQ)×List bA×List bA×List bA×List bA×List bA×List bA×List bA×List bA×List bA×List bA×Unit)=>A.bind (A.ab True (A.loop (λ(D:z1'×List a_×Int×Int×z1'×lv)=>letI a:=List.getD D.2.1 (Int.toNat D.2.2.2.1) (0,0,0,0,0,0);letI u:=a.2.2.2.2.1;if decide (D.2.2.2.1<D.2.2.1)=true then A.bind (A.ab (0<=D.2.2.2.1/\D.2.2.2.1<Int.ofNat (List.length D.2.1)) (A.ab (0<=u/\u<Int.ofNat 10) (HV (Xc D) u 9))) (V.bz (λ(D:z1'×List a_×Int×Int×z1'×lv)=>A.pure (V.next (D.1,D.2.1,D.2.2.1,IntKind.wrap .i64 (Add.add D.2.2.2.1 1),D.2.2.2.2)))) else A.bind (A.pure (V.next D.2.2.2.2)) λr=>A.pure (V.done r)) (D.1,D.pD,Int.ofNat (List.length D.pD),0,D.2.1,D.x4,D.Oa,D.D0,D.D1,D.D2,D.Ob,D.Oc,D.Od,D.rs,D.D3,D.2.2.1,D.2.2.2.1,D.2.2.2.2.1,D.db,D.ft,D.gM,D.ir,D.jS,D.kX,D.hN,D.nd,D.pD,D.sE,()))) (V.bz (λ(D:z1'×lv)=>A.bind (A.ab True (A.ab (0=Int.ofNat 0) (D9 ak7 ak8 10 0 D))) (V.bz (λ(D:z1'×lv)=>A.pure (some (D.1,[mw 0 D.2,mw 1 D.2,mw 2 D.2,mw 3 D.2,mw 4 D.2,mw 5 D.2,mw 6 D.2,mw 7 D.2,mw 8 D.2,mw 9 D.2]),true,W' D.2)))))))
def Xe(ak9:Int×Int×(bA×a_×Int->A Int)×List bA×Unit->A (List bA×Unit))(x:Int×Int×Int×(bA×a_×Int->A Int)×List bA×Unit):A (List bA×Unit):=
 A.loop (λ(D:Int×Int×Int×(bA×a_×Int->A Int)×Bool×Bool×List bA×Unit)=>if decide (IntKind.wrap .i64 (D.2.1-D.1)<=12)=true then A.bind (ak9 (D.1,D.2.1,D.2.2.2.1,D.ft,())) λy=>A.bind (A.pure (y.1,())) λr=>A.pure (V.done r) else A.fail) (x.1,x.2.1,x.2.2.1,x.2.2.2.1,true,true,x.2.2.2.2.1,())
def Xf(Og:z1'×ho->A (ho))(ak_:z1'×ho->A (Option dQ×Bool×ho))(x:z1'×ho):A (ho):=
 letI d:=Int.ofNat (List.length x.2.1);letI a:=Int.ofNat (List.length x.1);A.ab True (if decide (a=d)=true then A.bind (A.bind (ak_ (x.1,x.2.1,x.2.2.1,x.2.2.2.1,x.2.2.2.2.1,x.db,x.ft,x.gM,x.ir,x.jS,x.kX,x.hN,x.nd,x.pD,())) (λy=>if y.2.1=true then A.ab True (A.ab (bM (Add.add (List.length y.sE) (Add.add 0 1))) (A.ab True (A.pure (V.next (y.2.2.1,y.2.2.2.1,y.2.2.2.2.1,y.db,y.ft,y.gM,y.ir,y.jS,y.kX,y.hN,y.nd,y.pD,y.sE++[y.1],()))))) else A.pure (V.next (y.2.2.1,y.2.2.2.1,y.2.2.2.2.1,y.db,y.ft,y.gM,y.ir,y.jS,y.kX,y.hN,y.nd,y.pD,y.sE,())))) (V.bz (λ(D:ho)=>A.pure (D.1,D.2.1,D.2.2.1,D.2.2.2.1,D.2.2.2.2.1,D.db,D.ft,D.gM,D.ir,D.jS,D.kX,D.hN,D.nd,()))) else A.ab True (A.ab (0<=a/\a<d) (A.loop (λ(D:z1'×Int×Int×ho)=>letI c:=D.2.2;letI b:=D.2.1;letI e:=List.take (Int.toNat b) D.1;A.ab True (A.ab (0<=b/\b<Int.ofNat (List.length c.2.1)) (if decide (c.1<=(List.getD c.2.1 (Int.toNat b) (0,0)).2)=true then A.ab ((0:Int)<=0/\0<=b/\b=b/\b<=Int.ofNat (List.length D.1)) (A.ab (0<Add.add 0 1/\bM (Add.add (List.length e) (Add.add 0 1))) (A.bind (Og (e++[c.1],c.2.1,c.2.2.1,D.db,D.ft,D.gM,D.ir,D.jS,D.kX,D.hN,D.nd,D.pD,D.sE,D.x4,())) (λy=>A.pure (V.next (D.1,b,IntKind.wrap .i64 (Add.add c.1 1),y.1,y.2.1,y.2.2.1,y.2.2.2.1,y.2.2.2.2.1,y.db,y.ft,y.gM,y.ir,y.jS,y.kX,y.hN,y.nd,()))))) else A.bind (A.pure (c.2.1,c.2.2.1,D.db,D.ft,D.gM,D.ir,D.jS,D.kX,D.hN,D.nd,D.pD,D.sE,D.x4,())) λr=>A.pure (V.done r)))) (x.1,a,(List.getD x.2.1 (Int.toNat a) (0,0)).1,x.2.1,x.2.2.1,x.2.2.2.1,x.2.2.2.2.1,x.db,x.ft,x.gM,x.ir,x.jS,x.kX,x.hN,x.nd,x.pD,()))))
def Xg(ak':Int->A Int)(ala:Int×Int×Int×(bA×a_×Int->A Int)×List bA×Unit->A (List bA×Unit))(x:(bA×a_×Int->A Int)×List bA×Unit):A (List bA×Unit):=
 letI a:=Int.ofNat (List.length x.2.1);A.bind (ak' (IntKind.wrap .u64 a)) λy=>A.bind (ala (0,a,y,x.1,x.2.1,())) λy=>A.pure (y.1,())
end Go.Fer.H
namespace Go.Fer.H
open A (V)
abbrev bx:ad:=.int .i64
abbrev dk:ad:=.bool
abbrev fP:ad:=.slice bx
abbrev mx:ad:=.st (.az bx bx)
abbrev Ot:ad:=.st (.az bx (.az bx (.az bx (.az bx (.az bx (.az bx bx))))))
abbrev iP:ad:=.st (.az (.slice mx) (.az (.slice hp) (.az fP (.az (.slice mx) Ot))))
abbrev HW:ad:=.st (.az hp bx)
abbrev x5:ad:=.st (.az fP (.array 10 (.slice HW)))
abbrev sG:ad:=.st (.az iP (.az (.slice hp) (.slice (.bH x5))))
attribute [simp] qp Vx vw A.dF A.Fq A.Rr A.gL A.fs A.n7 A.jd A.kT A.bX A.pz ch gW Vw V.hn
section
variable {ak:Type}
def x6(d:ak)(x:List ak×(ak->A Bool)):A Int:=
 A.bind (A.loop (λ(D:List ak×(ak->A Bool)×Int×Int×Unit)=>if decide (D.2.2.2.1<D.2.2.1)=true then A.ab (0<=D.2.2.2.1/\
 D.2.2.2.1<Int.ofNat (List.length D.1)) (A.bind (D.2.1 (List.getD D.1 (Int.toNat D.2.2.2.1) d)) λy=>if y=true then A.bind (A.bind (A.pure
 D.2.2.2.1) λr=>A.pure (V.done r)) λr=>A.pure (V.done r) else A.pure (V.next (D.1,D.2.1,D.2.2.1,IntKind.wrap .i64 (Add.add
 D.2.2.2.1 1),()))) else A.bind (A.pure (V.next ())) λr=>A.pure (V.done r)) (x.1,x.2,Int.ofNat (List.length x.1),0,())) (V.bz λ(D
 : Unit)=>A.pure (-1))
def D_(c:List ak×(ak->A Bool)->A Int)(x:List ak×(ak->A Bool)):A Bool:=A.bind (c x) λy=>A.pure (decide (y>=0))
def hO(p:ak->Bool):List ak->Int->Int
 | [],_=>-1
 | x::l,i=>if p x=true then i else hO p l (i+1)
theorem Ax(p:ak->Bool):∀ (l:List ak) (i:Int),0<=i->(decide (hO p l i>=0))=l.any p
 | [],i,_=>by rfl
 | x::l,i,h=>by
  simp only[hO,List.any_cons];by_cases ag:p x=true
  ·grind
  ·have:=Ax p l (i+1) (by omega);grind
theorem Ay(p:ak->Bool):∀ (l:List ak) (i:Int),eZ (λx (i:Int)=>if p x=true then (.done (.done i):V Int (V Unit Int)) else .next (i+1)) (λ_=>.next ()) l i=if l.any p=true then .done (hO p l i) else .next ()
 | [],i=>by rfl
 | x::l,i=>by
  simp only[eZ,List.any_cons,hO];by_cases ag:p x=true
  ·grind
  ·have:=Ay p l (i+1);grind
theorem D'{p:ak->Bool}:∀ (l:List ak) (i:Int),¬l.any p=true->hO p l i=-1
 | [],_,_=>rfl
 | x::l,i,aw=>by
  simp only[List.any_cons,Bool.or_eq_true,not_or]at aw;simp only[hO,aw.1,Bool.false_eq_true,if_false];exact D' l _ aw.2
theorem Ou(d:ak)(l:List ak)(f:ak->A Bool)(h:l.length<2 ^ 63)(ao:∀ y∈l,∃ b,f y=A.pure b):x6 d (l,f)=A.pure (hO (λy=>(f y).val false) l 0):=by
 unfold x6;rw[A.fC l (λi (b:Int)=>(l,f,(l.length:Int),b,())) (λy (i:Int)=>if (f y).val false=true then (.done (.done i):V Int (V Unit Int)) else .next (i+1)) (λ_=>.next ()) (λi b=>b=(i:Int)) 0 ?_ ?_ ?_ ?_]
 ·rw[Ay (λy=>(f y).val false)];by_cases a8:(l.any λy=>(f y).val false)=true
  ·simp[a8]
  ·have:hO (λy=>(f y).val false) l 0=-1:=by
    have:∀ (l:List ak) (i:Int),¬(l.any λy=>(f y).val false)=true->hO (λy=>(f y).val false) l i=-1:=by
     intro l;induction l with
     | nil=>intro i _;rfl
     | cons x l aJ=>
      intro i aw;simp only[List.any_cons,Bool.or_eq_true,not_or]at aw;simp only[hO,aw.1,Bool.false_eq_true,if_false];grind
    grind
   simp[a8,this]
 ·rfl
 ·rfl
 ·intro i G b W;subst W;have hw:=bC (n:=(i:Int)+1) (by omega) (by omega);refine⟨?_,λbd cR=>?_⟩
  ·obtain⟨b,W⟩:=ao _ (List.getElem_mem G);simp only[bV,cT G,if_true,df G,cG G,A.br,W,A.fs,A.aF,ch,hw];split<;>rfl
  grind
 simp
end
abbrev kZ(e:ad):aL:=⟨.az (.slice e) (.fn e .bool),bx,λx=>x.1.length<2 ^ 63/\∀ y∈x.1,∃ b,x.2 y=A.pure b,λx=>hO (λy=>(x.2 y).val false) x.1 0⟩
theorem sH(e:ad)(x):A.le (x6 e.dh x) ((kZ e).sh x):=A.bu λh=>Ou e.dh x.1 x.2 h.1 h.2
abbrev je(e:ad):aL:=⟨.az (.slice e) (.fn e .bool),dk,λx=>x.1.length<2 ^ 63/\∀ y∈x.1,∃ b,x.2 y=A.pure b,λx=>x.1.any λy=>(x.2 y).val false⟩
theorem sI(e:ad)(x):A.le (D_ (kZ e).sh x) ((je e).sh x):=A.bu λh=>by
 unfold D_;simp only[aL.sh,kZ,A.dF];rw[A.bo (by exact h)];exact congrArg A.pure (Ax (λy=>(x.2 y).val false) x.1 0 (by omega))
abbrev lx(s:a_):Int:=s.1
abbrev pE(s:a_):Int:=s.2.1
abbrev x7(s:a_):Int:=s.2.2.1
abbrev eo(s:a_):Int:=s.2.2.2.1
abbrev ud(s:a_):Int:=s.2.2.2.2.1
abbrev iQ(s:a_):Int:=s.2.2.2.2.2
def iy(c:aZ):Prop:=c.1.length<2 ^ 63/\c.2.1.length<2 ^ 63/\c.2.2.1.length<2 ^ 63/\c.2.2.2.1.length<2 ^ 63
def bZ(n aY G:Int):Bool:=decide (aY<=n)&&decide (n<=G)
theorem oT{n aY G:Int}:bZ n aY G=true<->aY<=n/\n<=G:=by simp[bZ]
def pF(t:pC):Bool:=bZ t.1 0 9999&&bZ t.2.1 1 9999&&bZ t.2.2.2.2.1 1 9999&&bZ t.2.2.1 0 100000&&bZ t.2.2.2.1 0 100000&&bZ t.2.2.2.2.2.1 0 100000&&bZ t.2.2.2.2.2.2 0 100000
def ly(n:Nat)(s:a_):Bool:=bZ (lx s) 0 99&&bZ (pE s) 0 ((n:Int) - 1)&&bZ (x7 s) 0 9999&&bZ (ud s) 0 9&&bZ (iQ s) 0 99&&(decide (eo s=1)||decide (eo s=2)&&decide (iQ s=0))
abbrev cr:aL:=⟨.az bx (.az bx bx),dk,λ_=>True,λx=>bZ x.1 x.2.1 x.2.2⟩
theorem alb(x):A.le (WO cr.sh x) (cr.sh x):=A.bu λ_=>by
 unfold WO;simp[aL.sh,cr]
theorem alc(x):A.le (akG x) (cr.sh x):=A.bu λ_=>rfl
abbrev x8:aL:=⟨bx,dk,λ_=>True,λx=>bZ x 0 9999⟩
theorem ald(x):A.le (Wx cr.sh x) (x8.sh x):=A.bu λ_=>by
 unfold Wx;simp[aL.sh,cr]
abbrev vF:aL:=⟨bx,dk,λ_=>True,λx=>bZ x 0 99⟩
theorem ale(x):A.le (WI cr.sh x) (vF.sh x):=A.bu λ_=>by
 unfold WI;simp[aL.sh,cr]
abbrev vG:aL:=⟨Ot,dk,λ_=>True,λx=>pF x⟩
theorem alf(x):A.le (WZ cr.sh x) (vG.sh x):=A.bu λ_=>by
 unfold WZ;show _=A.pure (pF x);unfold pF;simp only[aL.sh,cr,A.nG,A.aF,A.kT];simp
theorem alg(x):A.le (WV cr.sh x) (vG.sh x):=A.bu λ_=>by
 unfold WV;rw[A.dB [x.2.2.1,x.2.2.2.1,x.2.2.2.2.2.1,x.2.2.2.2.2.2] (λi (_:Unit)=>(4,(i:Int),x,[x.2.2.1,x.2.2.2.1,x.2.2.2.2.2.1,x.2.2.2.2.2.2],())) (λy b=>if (!bZ y 0 100000)=true then .done (.done false) else .next b) (λ_=>.next (x,())) () ?_ ?_ ?_]
 ·rw[kU (q:=λy=>bZ y 0 100000) _ _ (λ_=>rfl)];show _=A.pure (pF x);unfold pF;simp only[List.all_cons,List.all_nil,Bool.and_true,aL.sh,cr,A.nG,A.aF,A.kT];cases E:bZ x.1 0 9999<;>cases U:bZ x.2.1 1 9999<;>cases ah:bZ x.2.2.2.2.1 1 9999<;>cases bZ x.2.2.1 0 100000<;>cases bZ x.2.2.2.1 0 100000<;>cases bZ x.2.2.2.2.2.1 0 100000<;>cases bZ x.2.2.2.2.2.2 0 100000<;>simp[E,U,ah]
 ·rfl
 ·intro i G b;have dO:i<4:=by omega
  have hw:=bC (n:=(i:Int)+1) (by omega) (by omega);have E:decide ((i:Int)<4)=true:=by grind
  simp only[E,if_true,bV,df G,cG G,A.br,aL.sh,cr,A.nG,A.aF,ch,hw];exact nc (mk:=λ(_:Unit)=>((4:Int),((i+1:Nat):Int),x,[x.2.2.1,x.2.2.2.1,x.2.2.2.2.2.1,x.2.2.2.2.2.2],()))
 simp
abbrev vH:aL:=⟨.az iP hp,dk,λx=>x.1.1.length<2 ^ 63,λx=>ly x.1.1.length x.2⟩
theorem alh(x):A.le (W0 cr.sh x) (vH.sh x):=A.bu λh=>by
 have hw:=bC (n:=(x.1.1.length:Int) - 1) (by omega) (by omega);unfold W0;show _=A.pure (ly x.1.1.length x.2);unfold ly;simp only[aL.sh,cr,A.nG,A.aF,A.kT,bV,hw];grind
theorem ali(x):A.le (WX cr.sh vF.sh x) (vH.sh x):=A.bu λh=>by
 have hw:=bC (n:=(x.1.1.length:Int) - 1) (by omega) (by omega);unfold WX;show _=A.pure (ly x.1.1.length x.2);unfold ly;simp only[aL.sh,cr,vF,A.nG,A.aF,A.kT,bV,hw];grind
abbrev Ea:aL:=⟨.az hp (.bH iP),dk,λx=>∃ c:aZ,x.2=some c/\c.1.length<2 ^ 63,λx=>!ly (x.2.getD ([],[],[],[],0,0,0,0,0,0,0)).1.length x.1⟩
theorem alj(x):A.le (WW vH.sh x) (Ea.sh x):=A.bu λh=>by
 obtain⟨s,o⟩:=x;obtain⟨c,hc,h⟩:=h;change o=some c at hc;subst hc;unfold WW;simp only[Option.getD_some,aL.sh,vH,A.dF];simp_all
abbrev Az:aL:=⟨bx,dk,λ_=>True,λx=>!bZ x 0 99⟩
theorem alk(x):A.le (WY vF.sh x) (Az.sh x):=A.bu λ_=>by
 unfold WY;simp[aL.sh,vF]
theorem Xh(a b:a_):(decide (a.1=b.1)&&(decide (a.2.1=b.2.1)&&(decide (a.2.2.1=b.2.2.1)&&(decide (a.2.2.2.1=b.2.2.2.1)&&(decide (a.2.2.2.2.1=b.2.2.2.2.1)&&decide (a.2.2.2.2.2=b.2.2.2.2.2))))))=decide (a=b):=by
 grind
def ue(a b:a_):Bool:=decide (lx a=lx b)&&!decide (a=b)
abbrev HX:aL:=⟨.az hp hp,dk,λ_=>True,λx=>ue x.1 x.2⟩
theorem alm(x):A.le (WN x) (HX.sh x):=A.bu λ_=>by
 have h:=Xh x.1 x.2;unfold WN;show _=A.pure (ue x.1 x.2);unfold ue;grind
abbrev oU:aL:=⟨.az fP bx,dk,λx=>x.1.length<2 ^ 63,λx=>x.1.contains x.2⟩
theorem aln(x):A.le (ak2 x) ((kZ hp).sh x):=sH hp x
theorem alo(x):A.le (akW (kZ hp).sh x) ((je hp).sh x):=sI hp x
abbrev oV:aL:=⟨fP,fP,λx=>x.length<=3000000,λx=>x⟩
theorem e7{n:Nat}(h:n<65536):bM n:=by unfold bM;omega
theorem alp(x):A.le (W2 x) (oV.sh x):=A.sA λh=>by
 unfold W2;rw[A.f'];refine⟨⟨false,by simp⟩,λb W=>?_⟩;change b=true->x=[]at W;cases b with
 | true=>rw[W rfl];exact A.ea.2 rfl
 | false=>
  simp only[Bool.false_eq_true,if_false];exact A.kK.2 ⟨by change List.length x<=3000000 at h;simp only[gW,bM];omega,A.ea.2 (by simp)⟩
abbrev HY(c:aZ):Prop:=c.1.length<=20/\c.2.1.length<=40/\c.2.2.1.length<=60/\c.2.2.2.1.length<=40
abbrev vI:aL:=⟨iP,iP,HY,λx=>x⟩
theorem Ov(x):A.le (Wm x) (vI.sh x):=A.bu λh=>by
 obtain⟨E,U,ah,a1⟩:=h;unfold Wm;rw[A.bo (e7 (by grind)),A.bo (e7 (by grind)),A.bo (e7 (by grind)),A.bo (e7 (by grind))];simp
abbrev HZ:aL:=⟨bx,dk,λ_=>True,λ_=>false⟩
theorem alq(x):A.le (W6 x) (HZ.sh x):=A.bu λ_=>by simp[W6]
abbrev H0:aL:=⟨.az bx bx,bx,λ_=>True,λx=>if x.1<x.2 then -1 else if x.1 > x.2 then 1 else 0⟩
theorem alr(x):A.le (W4 HZ.sh x) (H0.sh x):=A.bu λ_=>by
 unfold W4;simp only[aL.sh,HZ,A.nG,A.aF,Bool.false_eq_true,if_false,decide_eq_true_eq];grind
abbrev l2:aL:=⟨.az HW HW,bx,λ_=>True,λx=>if x.1.2<x.2.2 then -1 else if x.1.2 > x.2.2 then 1 else 0⟩
theorem als(x):A.le (W3 H0.sh x) (l2.sh x):=A.bu λ_=>by
 unfold W3;simp only[aL.sh,H0,A.nG,A.aF]
abbrev Ow:aL:=⟨.int .u64,bx,λx=>0<=x/\x<=12,λx=>(D8 x).val 0⟩
theorem alu(x):A.le (D8 x) (Ow.sh x):=A.bu λh=>by
 have key:∃ v,D8 x=A.pure v:=by
  change Int at x;change (0:Int)<=x/\x<=12 at h;unfold D8;have ax:¬(x>=4294967296):=by omega
  have aM:¬(x>=65536):=by omega
  have cD:¬(x>=256):=by omega
  have et:IntKind.wrap .u8 x=x:=by
   show (if (false&&decide (x % 2 ^ 8>=(2 ^ (8 - 1):Int)))=true then x % 2 ^ 8 - 2 ^ 8 else x % 2 ^ 8)=x;grind
  have k8:0<=x/\x<Int.ofNat 256:=⟨h.1,by grind⟩
  simp only[decide_eq_true_eq,ax,aM,cD,if_false,A.aF,A.bX,et,A.bo k8];grind
 obtain⟨v,ae⟩:=key;simp_all
abbrev Ox:aL:=⟨.int .u64,bx,λx=>0<=x/\x<=12,λx=>(D8 x).val 0⟩
theorem alv(f)(x):A.le (W1 f Ow.sh x) (Ox.sh x):=A.bu λh=>by
 unfold W1;simp only[aL.sh,A.dF];simp_all
end Go.Fer.H
namespace Go.Fer.H
open A (V)
section
variable {ak:Type} (d:ak) (lt:ak->ak->Bool)
def vJ(l:List ak):Nat->List ak
 | 0=>l
 | k+1=>if lt (l.getD (k+1) d) (l.getD k d)=true then vJ ((l.set (k+1) (l.getD k d)).set k (l.getD (k+1) d)) k else l
def pG(e:ak):List ak->List ak
 | []=>[e]
 | a::r=>if lt e a=true then a::pG e r else e::a::r
def uf(l:List ak):List ak:=l.foldl (λr e=>pG lt e r) []
def fu(l:List ak):List ak:=(uf lt l).reverse
theorem Xi:∀ (r:List ak) (e:ak) (R:List ak),vJ d lt (r.reverse++e::R) r.length=(pG lt e r).reverse++R
 | [],e,R=>rfl
 | a::r,e,R=>by
  have ax:((a::r).reverse++e::R).getD (r.length+1) d=e:=by
   simp
  have aM:((a::r).reverse++e::R).getD r.length d=a:=by
   simp
  show vJ d lt ((a::r).reverse++e::R) (r.length+1)=_;unfold vJ;rw[ax,aM];unfold pG;split
  ·have cD:(((a::r).reverse++e::R).set (r.length+1) a).set r.length e=r.reverse++e::(a::R):=by
    simp
   rw[cD,Xi r e (a::R)];simp
  ·simp
theorem Oy(e:ak):∀ r:List ak,(pG lt e r).Perm (e::r)
 | []=>.refl _
 | a::r=>by
  unfold pG;split
  ·exact ((Oy e r).cons a).trans (List.Perm.swap e a r)
  rfl
theorem Xj:∀ (l r:List ak),(l.foldl (λr e=>pG lt e r) r).Perm (l++r)
 | [],r=>.refl _
 | x::l,r=>by
  simp only[List.foldl_cons];refine (Xj l _).trans ?_;refine ((Oy lt x r).append_left l).trans ?_;simp
theorem Xk(l:List ak):(uf lt l).Perm l:=by
 have:=Xj lt l [];rwa [List.append_nil]at this
theorem Eb(l:List ak):(fu lt l).Perm l:=(List.reverse_perm _).trans (Xk lt l)
theorem Xl(l:List ak):(uf lt l).length=l.length:=(Xk lt l).length_eq
theorem H2(l:List ak):(fu lt l).length=l.length:=(Eb lt l).length_eq
theorem Xm{l:List ak}{x:ak}:x∈fu lt l<->x∈l:=(Eb lt l).mem_iff
theorem alw(l:List ak)(e:ak):uf lt (l++[e])=pG lt e (uf lt l):=by simp[uf]
def qv(l:List ak)(n:Nat):List ak:=(uf lt (l.take n)).reverse++l.drop n
theorem alx(l:List ak):qv lt l 1=l:=by
 cases l with
 | nil=>rfl
 | cons x l=>rfl
theorem aly(l:List ak):qv lt l l.length=fu lt l:=by simp[qv,fu]
theorem alz(l:List ak)(n:Nat)(h:n<=l.length):(qv lt l n).length=l.length:=by
 simp[qv,Xl,Nat.min_eq_left h];omega
theorem alA{l:List ak}{n:Nat}(h:n<l.length):vJ d lt (qv lt l n) n=qv lt l (n+1):=by
 have ax:(uf lt (l.take n)).length=n:=by rw[Xl];grind
 have:=Xi d lt (uf lt (l.take n)) l[n] (l.drop (n+1));rw[ax]at this;unfold qv;rw[List.drop_eq_getElem_cons h,this,List.take_add_one,List.getElem?_eq_getElem h,Option.toList_some,alw]
theorem Oz(cc:∀ a b,lt a b=false->lt b a=true\/lt b a=false)(aV:∀ a b c:ak,lt a b=false->lt b c=false->lt a c=false)(Xn:∀ a b,lt a b=true->lt b a=false)(e:ak):∀ r:List ak,r.Pairwise (λa b=>lt a b=false)->(pG lt e r).Pairwise (λa b=>lt a b=false)
 | [],_=>by simp[pG]
 | a::r,h=>by
  rw[List.pairwise_cons]at h;unfold pG;split
  ·rename_i he;refine List.pairwise_cons.2 ⟨λx ag=>?_,Oz cc aV Xn e r h.2⟩;rcases List.mem_cons.1 ((Oy lt e r).mem_iff.1 ag) with rfl | ag
   ·exact Xn _ _ he
   ·exact h.1 x ag
  ·rename_i he;have he:lt e a=false:=by grind
   refine List.pairwise_cons.2 ⟨λx ag=>?_,List.pairwise_cons.2 h⟩;grind
end
def hr(a b:Int):Bool:=decide (a<b)
def hY(a b:bA):Bool:=decide (a.2<b.2)
theorem Xo:∀ (l r:z1'),r.Pairwise (λa b=>hr a b=false)->(l.foldl (λr e=>pG hr e r) r).Pairwise (λa b=>hr a b=false)
 | [],r,h=>h
 | x::l,r,h=>Xo l _ (Oz hr (λa b _=>by simp) (λa b c E U=>by simp[hr]at *;omega) (λa b h=>by simp[hr]at *;omega) x r h)
theorem OA(l:z1'):(fu hr l).Pairwise (·<=·):=by
 have:=Xo l [] .nil;unfold fu;rw[List.pairwise_reverse];exact this.imp λh=>by simp[hr]at h;exact h
theorem Xp:∀ (l r:List bA),r.Pairwise (λa b=>hY a b=false)->(l.foldl (λr e=>pG hY e r) r).Pairwise (λa b=>hY a b=false)
 | [],r,h=>h
 | x::l,r,h=>Xp l _ (Oz hY (λa b _=>by simp) (λa b c E U=>by simp[hY]at *;omega) (λa b h=>by simp[hY]at *;omega) x r h)
theorem alB(l:List bA):(fu hY l).Pairwise λa b=>a.2<=b.2:=by
 have:=Xp l [] .nil;unfold fu;rw[List.pairwise_reverse];exact this.imp λh=>by simp[hY]at h;exact h
theorem AA{l m:z1'}(h:m.Pairwise (·<=·))(an:l.Perm m):fu hr l=m:=
 List.Perm.eq_of_pairwise (λa b _ _ E U=>by omega) (OA l) h ((Eb hr l).trans an)
theorem Xq{l m:z1'}(an:l.Perm m):fu hr l=fu hr m:=AA (OA m) (an.trans (Eb hr m).symm)
theorem alC{ak:Type}{d:ak}{lt:ak->ak->Bool}{D aI:Type}{body:D->A (V D aI)}{s0:D}(mk:Nat->List ak->D)(fin:List ak->aI)(gV:Nat)(fi:List ak)(na:s0=mk gV fi)(mV:gV<fi.length)
  (aD:∀ k l,l.length=fi.length->k<fi.length->body (mk k l)=A.pure (if 0<k/\lt (l.getD k d) (l.getD (k - 1) d)=true then .next (mk (k - 1) ((l.set k (l.getD (k - 1) d)).set (k - 1) (l.getD k d))) else .done (fin l))) :
  A.loop body s0=A.pure (fin (vJ d lt fi gV)):=by
 subst na;have key:∀ k l,l.length=fi.length->k<fi.length->A.loop body (mk k l)=A.pure (fin (vJ d lt l k)):=by
  intro k;induction k with
  | zero=>
   intro l aj al;exact A.rS (by rw[aD 0 l aj al,if_neg (by simp)];rfl)
  | succ k aJ=>
   intro l aj al;unfold vJ;by_cases h:lt (l.getD (k+1) d) (l.getD k d)=true
   ·rw[if_pos h,A.yX (s':=mk k ((l.set (k+1) (l.getD k d)).set k (l.getD (k+1) d)))]
    ·exact aJ _ (by simpa using aj) (by omega)
    ·rw[aD (k+1) l aj al,if_pos ⟨by omega,h⟩];rfl
   ·rw[if_neg h];exact A.rS (by grind)
 grind
theorem OB{ak:Type}{l:List ak}{d:ak}{k:Nat}:l.getD ((k:Int) - 1).toNat d=l.getD (k - 1) d:=by
 simp
theorem Xr{ak:Type}{l:List ak}{d:ak}{k:Nat}:l.getD ((k:Int)).toNat d=l.getD k d:=by rfl
theorem alD{D aI:Type}{c:Bool}{p:Prop}[Decidable p](h:c=decide p){x y:A (V D aI)}{a b:V D aI}(E:p->x=A.pure a)(U:¬p->y=A.pure b):(if c=true then x else y)=A.pure (if p then a else b):=by
 grind
def H3(x:Int×Int×(bA×a_×Int->A Int)×List bA×Unit):A (List bA×Unit):=A.dR (x.1=0/\x.2.1=(x.2.2.2.1.length:Int)/\x.2.2.2.1.length<=12/\x.2.2.1=l2.sh) (fu hY x.2.2.2.1,())
theorem alE(x):A.le (W_ x) (H3 x):=A.bu λh=>by
 obtain⟨a,b,f,l,u⟩:=x;obtain⟨E,U,ah,a1⟩:=h;change a=0 at E;change b=(l.length:Int) at U;change l.length<=12 at ah;change f=l2.sh at a1;subst E;subst U;subst a1;unfold W_;rw[A.dB (List.range (l.length - 1)) (λi (_:Unit)=>(0,(l.length:Int),l2.sh,((i+1:Nat):Int),qv hY l (i+1),())) (λ_ _=>.next ()) (λ_=>(fu hY l,())) () ?_ ?_ ?_]
 ·rw[dP]
 ·show (0,(l.length:Int),l2.sh,IntKind.wrap .i64 (Add.add 0 1),l,())=(0,(l.length:Int),l2.sh,((0+1:Nat):Int),qv hY l (0+1),())
  rw[alx];rfl
 ·intro i G _;have G:i+1<l.length:=by grind
  have aj:=alz hY l (i+1) (by omega);have hw:=bC (n:=((i+1:Nat):Int)+1) (by omega) (by omega);have ar:decide (((i+1:Nat):Int)<(l.length:Int))=true:=by grind
  simp only[ar,if_true];rw[alC (d:=((0,0,0,0,0,0),0)) (lt:=hY) (λk m=>(0,(l.length:Int),l2.sh,((i+1:Nat):Int),(k:Int),m,())) (λm=>.next (0,(l.length:Int),l2.sh,((i+1:Nat):Int),m,())) (i+1) (qv hY l (i+1)) rfl (by omega) ?_]
  ·simp only[A.aF,A.bX,ch,hw,alA ((0,0,0,0,0,0),0) hY G];rfl
  ·intro k m hm al;have gU:0<k->IntKind.wrap .i64 ((k:Int) - 1)=(k:Int) - 1:=λ_=>bC (by omega) (by omega);by_cases mV:0<k
   ·have an:decide ((k:Int) > 0)=true:=by grind
    have b_:(0:Int)<=(k:Int)/\(k:Int)<Int.ofNat m.length:=⟨by omega,by grind⟩
    have cy:(0:Int)<=(k:Int) - 1/\(k:Int) - 1<Int.ofNat m.length:=⟨by omega,by omega⟩
    have eg:(0:Int)<=(k:Int) - 1/\(k:Int) - 1<Int.ofNat (m.set k (m.getD (k - 1) ((0,0,0,0,0,0),0))).length:=⟨by omega,by grind⟩
    have H4:((k:Int) - 1)=((k - 1:Nat):Int):=by omega
    simp only[an,gU mV,b_,cy,forall_const,and_self,true_and,A.br,aL.sh,l2,A.nG,A.kT,A.aF,if_true,Bool.true_and,OB,Xr,Int.toNat_natCast,eg];rw[show ((k:Int) - 1).toNat=k - 1 from by omega];refine alD (p:=0<k/\hY (m.getD k ((0,0,0,0,0,0),0)) (m.getD (k - 1) ((0,0,0,0,0,0),0))=true) ?_ (λ_=>?_) (λ_=>rfl)
    ·rw[Bool.eq_iff_iff];simp only[hY,mV,true_and,decide_eq_true_eq];grind
    rw[H4]
   ·have Xs:k=0:=by omega
    subst Xs;simp[cq]
 ·intro _;have e:qv hY l (l.length - 1+1)=fu hY l:=by
   cases l with
   | nil=>rfl
   | cons x r=>exact aly hY (x::r)
  have ar:decide (((l.length - 1+1:Nat):Int)<(l.length:Int))=false:=by grind
  simp only[List.length_range,ar,Bool.false_eq_true,if_false,e,A.aF]
def H5(x:Int×Int×Int×(bA×a_×Int->A Int)×List bA×Unit):A (List bA×Unit):=A.dR (x.1=0/\x.2.1=(x.2.2.2.2.1.length:Int)/\x.2.2.2.2.1.length<=12/\x.2.2.2.1=l2.sh) (fu hY x.2.2.2.2.1,())
theorem alF(x):A.le (Xe H3 x) (H5 x):=A.bu λh=>by
 obtain⟨a,b,c,f,l,u⟩:=x;obtain⟨E,U,ah,a1⟩:=h;change a=0 at E;change b=(l.length:Int) at U;change l.length<=12 at ah;change f=l2.sh at a1;subst E;subst U;subst a1;unfold Xe;refine A.rS ?_;have hw:=bC (n:=(l.length:Int) - 0) (by omega) (by omega);have ar:decide ((l.length:Int) - 0<=12)=true:=by grind
 simp only[hw,ar,if_true];unfold H3;simp_all
theorem alG{n:Int}(h:0<=n)(U:n<=12):IntKind.wrap .u64 n=n:=by
 show (if (false&&decide (n % 2 ^ 64>=(2 ^ (64 - 1):Int)))=true then n % 2 ^ 64 - 2 ^ 64 else n % 2 ^ 64)=n;grind
def x9(x:z1'×Unit):A (z1'×Unit):=A.dR (x.1.length<4611686018427387904) (fu hr x.1,())
def AB(x:(bA×a_×Int->A Int)×List bA×Unit):A (List bA×Unit):=A.dR (x.2.1.length<=12/\x.1=l2.sh) (fu hY x.2.1,())
theorem alH(x):A.le (Xg Ox.sh H5 x) (AB x):=A.bu λh=>by
 obtain⟨f,l,u⟩:=x;obtain⟨h,a1⟩:=h;change l.length<=12 at h;change f=l2.sh at a1;subst a1;unfold Xg;have hw:=alG (n:=(l.length:Int)) (by omega) (by omega);show A.bind (A.dR (0<=IntKind.wrap .u64 (l.length:Int)/\IntKind.wrap .u64 (l.length:Int)<=12) _) _=_;rw[A.dF,A.bo (by omega)];unfold H5;simp_all
def AD(x:(z1'->Prop)×Unit):A (z1'×Unit):=⟨(∃ L,x.1 L)/\∀ L,x.1 L->L.length<60000,λy=>x.1 y.1⟩
theorem Xt:∀ (L acc:z1'),L.length+acc.length<60000->jN (λ(D:z1'×Unit) (y:Int)=>A.bind (A.ab (bM (Add.add (List.length D.1) (Add.add 0 1))) (A.pure (dj.normal,D.1++[y],()))) λp=>A.pure (p.1,p.2.1,())) L (acc,())=A.pure (.normal,acc++L,())
 | [],acc,_=>by simp[jN]
 | x::L,acc,h=>by
  simp only[List.length_cons]at h;unfold jN;rw[A.bo (e7 (by grind))];simp only[A.aF];rw[Xt L (acc++[x]) (by grind)];simp
theorem alI(x):A.le (W7 x) (AD x):=λh=>by
 obtain⟨S,u⟩:=x;obtain⟨E,U⟩:=h;show A.cw _ _;unfold W7;rw[A.f'];refine⟨E,λL iM=>?_⟩;have iM:S L:=iM;show A.cw (A.bind (jN _ L ([],())) _) _;rw[Xt L [] (by grind)];simp only[A.aF,sg,List.nil_append];exact A.ea.2 iM
theorem alJ(x):A.le (W8 AD x) (AD x):=λh=>by
 obtain⟨S,u⟩:=x;show A.cw _ _;unfold W8;rw[A.f'];exact⟨h,λy aS=>A.ea.2 aS⟩
open Classical in
def AE(S:z1'->Prop):z1':=if h:∃ L,S L then fu hr h.choose else []
abbrev sJ:aL:=⟨.ct bx,fP,λS=>(∃ L,S L)/\(∀ L e6,S L->S e6->L.Perm e6)/\∀ L,S L->L.length<60000,λS=>AE S⟩
theorem alK(x):A.le (Wz x9 AD x) (sJ.sh x):=A.sA λh=>by
 obtain⟨E,U,ah⟩:=h;unfold Wz;rw[A.f'];refine⟨⟨E,λL iM=>by grind⟩,λy aS=>?_⟩;have aS:x y.1:=aS;unfold x9;show A.cw (A.bind (A.dR _ _) _) _;rw[A.dF,A.kK];refine⟨Nat.lt_trans (ah _ aS) (by decide),A.ea.2 ?_⟩;show fu hr y.1=AE x;unfold AE;rw[dif_pos E];exact Xq (U _ _ aS E.choose_spec)
theorem alL{S:z1'->Prop}{L:z1'}(h:S L)(U:∀ L e6,S L->S e6->L.Perm e6):AE S=fu hr L:=by
 have E:∃ L,S L:=⟨L,h⟩
 unfold AE;rw[dif_pos E];exact Xq (U _ _ E.choose_spec h)
def jT{ak:Type}(x:Option (List (Int×ak)))(L:z1'):Prop:=∃ m,x=some m/\(m.map (·.1)).Perm L
abbrev H6:aL:=⟨.map bx bx,.ct bx,λ_=>True,λx=>jT (some x)⟩
theorem alM(x):A.le (akI jT x) (H6.sh x):=A.bu λ_=>rfl
abbrev x_:aL:=⟨.map bx hp,.ct bx,λ_=>True,λx=>jT (some x)⟩
theorem alN(x):A.le (akZ jT x) (x_.sh x):=A.bu λ_=>rfl
theorem ug{ak:Type}{m:List (Int×ak)}{L:z1'}:jT (some m) L<->(m.map (·.1)).Perm L:=⟨λ⟨dz,h,k⟩=>by grind,λh=>⟨m,rfl,h⟩⟩
theorem Xu{ak:Type}{m:List (Int×ak)}(h:m.length<60000):sJ.pre (jT (some m)):=
 ⟨⟨_,ug.2 (.refl _)⟩,λL e6 E U=>(ug.1 E).symm.trans (ug.1 U),λL iM=>by rw[<-(ug.1 iM).length_eq];grind⟩
theorem Xv{ak:Type}{m:List (Int×ak)}:AE (jT (some m))=fu hr (m.map (·.1)):=
 alL (ug.2 (.refl _)) λL e6 E U=>(ug.1 E).symm.trans (ug.1 U)
end Go.Fer.H
namespace Go.Fer.H
open A (V)
def sK(s:Int×Int):Bool:=bZ s.1 (-30) s.2&&!decide (s.2 > 30)
def iR(l:z4')(i:Nat):Bool:=bZ (l.getD i (0,0)).1 0 (l.getD i (0,0)).2&&!decide ((l.getD i (0,0)).2 > 9999)&&!(decide (0<i)&&decide ((l.getD i (0,0)).1<=(l.getD (i - 1) (0,0)).2))
def AF(l:z4'):Bool:=(List.range l.length).all (iR l)
def sL(c:aZ):Bool:=!(decide ((c.1.length:Int) > 3)||decide ((c.2.1.length:Int) > 12)||decide ((c.2.2.1.length:Int) > 12)||decide ((c.2.2.2.1.length:Int) > 4))&&pF c.2.2.2.2
def jU(c:aZ):Bool:=sL c&&c.1.all sK&&c.2.1.all (ly c.1.length)&&c.2.2.1.all (λn=>bZ n 0 99)&&AF c.2.2.2.1
abbrev vK:aL:=⟨iP,dk,iy,λc=>jU c⟩
theorem H7{D aI β:Type}{mk:β->D}{b:β}{q:Bool}{r:aI}{m:A (V D aI)}(E:q=true->m=A.pure (.next (mk b)))(U:q=false->m=A.pure (.done r)):m=A.pure (V.hn mk (if (!q)=true then .done r else .next b)):=by
 cases q
 ·exact U rfl
 ·exact E rfl
theorem Xw{ak:Type}{a t:Bool}{m n:ak}:(if (a||!(if (!a)=true then t else false))=true then m else n)=if (!a&&t)=true then n else m:=by grind
theorem alO(x):A.le (WL cr.sh vG.sh vH.sh x) (vK.sh x):=A.bu λh=>by
 obtain⟨aO,aR,bO,fI⟩:=h;unfold WL;show _=A.pure (jU x);simp only[aL.sh,vG,A.nG,A.kT,A.aF,bV,Xw];unfold jU;rw[show (!(decide ((x.1.length:Int) > 3)||decide ((x.2.1.length:Int) > 12)||decide ((x.2.2.1.length:Int) > 12)||decide ((x.2.2.2.1.length:Int) > 4))&&pF x.2.2.2.2)=sL x from rfl];cases W:sL x with
 | false=>rfl
 | true=>
  rw[if_pos rfl];rw[A.dB x.1 (λi (_:Unit)=>((i:Int),x,())) (λy b=>if (!sK y)=true then .done (.done false) else .next b) (λ_=>.next (x,())) () ?_ ?_ ?_]
  ·rw[kU (q:=sK) _ _ (λ_=>rfl)];cases hc:x.1.all sK with
   | false=>simp
   | true=>
    simp only[if_true,A.aF,A.bX];rw[A.dB x.2.1 (λi (_:Unit)=>((i:Int),x,())) (λy b=>if (!ly x.1.length y)=true then .done (.done false) else .next b) (λ_=>.next (x,())) () ?_ ?_ ?_]
    ·rw[kU (q:=ly x.1.length) _ _ (λ_=>rfl)];cases ar:x.2.1.all (ly x.1.length) with
     | false=>simp
     | true=>
      simp only[if_true,A.aF,A.bX];rw[A.dB x.2.2.1 (λi (_:Unit)=>((i:Int),x,())) (λy b=>if (!bZ y 0 99)=true then .done (.done false) else .next b) (λ_=>.next (x,())) () ?_ ?_ ?_]
      ·rw[kU (q:=λn=>bZ n 0 99) _ _ (λ_=>rfl)];cases he:x.2.2.1.all (λn=>bZ n 0 99) with
       | false=>simp
       | true=>
        simp only[if_true,A.aF,A.bX];rw[A.dB (List.range x.2.2.2.1.length) (λi (_:Unit)=>((i:Int),x,())) (λy b=>if (!iR x.2.2.2.1 y)=true then .done (.done false) else .next b) (λ_=>.next ()) () ?_ ?_ ?_]
        ·rw[kU (q:=iR x.2.2.2.1) _ _ (λ_=>rfl)];unfold AF;cases (List.range x.2.2.2.1.length).all (iR x.2.2.2.1)<;>simp
        ·rfl
        ·intro i G b;have G:i<x.2.2.2.1.length:=by grind
         have hw:=bC (n:=(i:Int)+1) (by omega) (by omega);have gU:=bC (n:=(i:Int) - 1) (by omega) (by omega);have jw:x.2.2.2.1.getD i (0,0)=x.2.2.2.1[i]:=by grind
         have sM:(decide ((i:Int) > 0))=decide (0<i):=by simp
         have M:decide (0<i)=true->((0:Int)<=(i:Int) - 1/\(i:Int) - 1<(x.2.2.2.1.length:Int)):=λh=>by grind
         refine H7 (mk:=λ(_:Unit)=>(((i+1:Nat):Int),x,())) (b:=b) ?_ ?_<;>intro bt<;>
         ·simp only[List.getElem_range,iR,jw]at bt;simp only[bV,cT G,if_true,df G,cG G,A.br,aL.sh,cr,A.nG,A.iz,A.fs,ch,hw,gU,sM,OB,List.getElem_range];revert bt;generalize bZ x.2.2.2.1[i].1 0 x.2.2.2.1[i].2=dL;generalize decide (x.2.2.2.1[i].2 > 9999)=eA;generalize decide (x.2.2.2.1[i].1<=(x.2.2.2.1.getD (i - 1) (0,0)).2)=mG;revert M;generalize decide (0<i)=rR;intro M;cases rR
          ·cases dL<;>cases eA<;>cases mG<;>simp
          ·have M:=M rfl;cases dL<;>cases eA<;>cases mG<;>simp[M,(by omega:(1:Int)<=(i:Int))]
        simp
      ·rfl
      ·intro i G b;have hw:=bC (n:=(i:Int)+1) (by omega) (by omega);simp only[bV,cT G,if_true,df G,cG G,A.br,aL.sh,cr,A.nG,A.aF,ch,hw];exact nc (mk:=λ(_:Unit)=>(((i+1:Nat):Int),x,()))
      simp
    ·rfl
    ·intro i G b;have hw:=bC (n:=(i:Int)+1) (by omega) (by omega);simp only[bV,cT G,if_true,df G,cG G,A.br,aL.sh,vH,A.n7,A.gL,A.aF,ch,hw];rw[A.bo aO];exact nc (mk:=λ(_:Unit)=>(((i+1:Nat):Int),x,()))
    simp
  ·rfl
  ·intro i G b;have hw:=bC (n:=(i:Int)+1) (by omega) (by omega);refine H7 (mk:=λ(_:Unit)=>(((i+1:Nat):Int),x,())) (b:=b) ?_ ?_<;>intro bt<;>
   ·simp only[sK]at bt;simp only[bV,cT G,if_true,df G,cG G,A.br,aL.sh,cr,A.nG,A.iz,A.fs,ch,hw];revert bt;generalize bZ x.1[i].1 (-30) x.1[i].2=dL;generalize decide (x.1[i].2 > 30)=eA;simp_all
  simp
theorem Xx{ak:Type}{p:ak->Bool}(l:List ak):(l.any λy=>!p y)=!l.all p:=by grind
theorem alP(x):A.le (WK cr.sh (je hp).sh vG.sh (je bx).sh Ea.sh Az.sh x) (vK.sh x):=A.bu λh=>by
 obtain⟨aO,aR,bO,fI⟩:=h;unfold WK;show _=A.pure (jU x);simp only[show vG.sh x.2.2.2.2=A.pure (pF x.2.2.2.2) from rfl,A.kT,A.aF,bV,Xw];unfold jU;rw[show (!(decide ((x.1.length:Int) > 3)||decide ((x.2.1.length:Int) > 12)||decide ((x.2.2.1.length:Int) > 12)||decide ((x.2.2.2.1.length:Int) > 4))&&pF x.2.2.2.2)=sL x from rfl];cases W:sL x with
 | false=>rfl
 | true=>
  rw[if_pos rfl];rw[A.dB x.1 (λi (_:Unit)=>(x.1,(x.1.length:Int),(i:Int),x,())) (λy b=>if (!sK y)=true then .done (.done false) else .next b) (λ_=>.next (x,())) () ?_ ?_ ?_]
  ·rw[kU (q:=sK) _ _ (λ_=>rfl)];cases hc:x.1.all sK with
   | false=>simp
   | true=>
    simp only[if_true,A.aF,A.bX];rw[A.dB (List.range x.2.2.2.1.length) (λi (_:Unit)=>(x.2.2.2.1,(x.2.2.2.1.length:Int),(i:Int),x,())) (λy b=>if (!iR x.2.2.2.1 y)=true then .done (.done false) else .next b) (λ_=>.next (x,())) () ?_ ?_ ?_]
    ·rw[kU (q:=iR x.2.2.2.1) _ _ (λ_=>rfl)];unfold AF;cases ar:(List.range x.2.2.2.1.length).all (iR x.2.2.2.1) with
     | false=>simp
     | true=>
      simp only[if_true,A.aF,A.bX];have ax:(je hp).sh (x.2.1,λy=>Ea.sh (y,some x))=A.pure (!x.2.1.all (ly x.1.length)):=by
       have ao:∀ y,Ea.sh (y,some x)=A.pure (!ly x.1.length y):=λy=>A.bR ⟨x,rfl,aO⟩ _;refine (A.bR ⟨aR,λy _=>⟨_,ao y⟩⟩ _).trans ?_;refine congrArg A.pure ?_;rw[<-Xx];simp_all
      have aM:(je bx).sh (x.2.2.1,Az.sh)=A.pure (!x.2.2.1.all (λn=>bZ n 0 99)):=by
       refine (A.bR ⟨bO,λy _=>⟨_,rfl⟩⟩ _).trans ?_;refine congrArg A.pure ?_;rw[<-Xx];show (x.2.2.1.any λy=>(Az.sh y).val false)=_;simp only[show ∀ y,Az.sh y=A.pure (!bZ y 0 99) from λ_=>rfl,A.fs]
      rw[ax,aM];simp only[A.aF,A.kT];grind
    ·rfl
    ·intro i G b;have G:i<x.2.2.2.1.length:=by grind
     have hw:=bC (n:=(i:Int)+1) (by omega) (by omega);have gU:=bC (n:=(i:Int) - 1) (by omega) (by omega);have jw:x.2.2.2.1.getD i (0,0)=x.2.2.2.1[i]:=by grind
     have sM:(decide ((i:Int) > 0))=decide (0<i):=by simp
     have M:decide (0<i)=true->((0:Int)<=(i:Int) - 1/\(i:Int) - 1<(x.2.2.2.1.length:Int)):=λh=>by grind
     refine H7 (mk:=λ(_:Unit)=>(x.2.2.2.1,(x.2.2.2.1.length:Int),((i+1:Nat):Int),x,())) (b:=b) ?_ ?_<;>intro bt<;>
     ·simp only[List.getElem_range,iR,jw]at bt;simp only[bV,cT G,if_true,df G,cG G,A.br,aL.sh,cr,A.nG,A.iz,A.fs,ch,hw,gU,sM,OB,List.getElem_range];revert bt;generalize bZ x.2.2.2.1[i].1 0 x.2.2.2.1[i].2=dL;generalize decide (x.2.2.2.1[i].2 > 9999)=eA;generalize decide (x.2.2.2.1[i].1<=(x.2.2.2.1.getD (i - 1) (0,0)).2)=mG;revert M;generalize decide (0<i)=rR;intro M;cases rR
      ·cases dL<;>cases eA<;>cases mG<;>simp
      ·have M:=M rfl;cases dL<;>cases eA<;>cases mG<;>simp[M,(by omega:(1:Int)<=(i:Int))]
    simp
  ·rfl
  ·intro i G b;have hw:=bC (n:=(i:Int)+1) (by omega) (by omega);refine H7 (mk:=λ(_:Unit)=>(x.1,(x.1.length:Int),((i+1:Nat):Int),x,())) (b:=b) ?_ ?_<;>intro bt<;>
   ·simp only[sK]at bt;simp only[bV,cT G,if_true,df G,cG G,A.br,aL.sh,cr,A.nG,A.aF,ch,hw];grind
  simp
abbrev jx:a_:=(0,0,0,0,0,0)
def k0(l:List a_):Bool:=(List.range l.length).any λi=>(List.range i).any λk=>ue (l.getD k jx) (l.getD i jx)
def cM(c:aZ):Int:=if jU c=true then (if k0 c.2.1=true then 91 else 0) else 90
abbrev hZ:aL:=⟨iP,bx,iy,λc=>cM c⟩
theorem sN{ak:Type}{l:List ak}{i:Nat}{d:ak}(h:i<l.length):l.getD i d=l[i]:=by grind
theorem alQ(x):A.le (Ws vK.sh HX.sh x) (hZ.sh x):=A.bu λh=>by
 obtain⟨aO,aR,bO,fI⟩:=id h;unfold Ws;show _=A.pure (cM x);rw[show vK.sh x=A.pure (jU x) from A.bR h _];unfold cM;cases jU x with
 | false=>simp
 | true=>
  simp only[A.aF,Bool.not_true,Bool.false_eq_true,if_false,if_true];rw[A.dB (List.range x.2.1.length) (λi (_:Unit)=>((i:Int),x,())) (λi b=>if ((List.range i).any λk=>ue (x.2.1.getD k jx) (x.2.1.getD i jx))=true then .done (.done 91) else .next b) (λ_=>.next ()) () ?_ ?_ ?_]
  ·rw[sB];unfold k0;cases (List.range x.2.1.length).any λi=>(List.range i).any λk=>ue (x.2.1.getD k jx) (x.2.1.getD i jx)<;>simp
  ·rfl
  ·intro i G b;have G:i<x.2.1.length:=by grind
   have hw:=bC (n:=(i:Int)+1) (by omega) (by omega);have ar:decide ((i:Int)<Int.ofNat x.2.1.length)=true:=cT G;simp only[ar,if_true,List.getElem_range];rw[A.dB (List.range i) (λk (_:Unit)=>((i:Int),(k:Int),x,())) (λk b=>if ue (x.2.1.getD k jx) (x.2.1.getD i jx)=true then .done (.done (.done (.done 91))) else .next b) (λ_=>(.next ((i:Int),x,()):V (Int×aZ×Unit) (V (Int×aZ×Unit) (V Unit Int)))) () ?_ ?_ ?_]
   ·rw[sB];cases (List.range i).any λk=>ue (x.2.1.getD k jx) (x.2.1.getD i jx)<;>simp[hw]
   ·rfl
   ·intro k al b;have al:k<i:=by grind
    have vL:k<x.2.1.length:=by omega
    have hw:=bC (n:=(k:Int)+1) (by omega) (by omega);have ar:decide ((k:Int)<(i:Int))=true:=by grind
    simp only[ar,if_true,bV,cG vL,cG G,A.br,aL.sh,HX,A.nG,A.iz,A.fs,A.aF,ch,hw,List.getElem_range,Xr];exact nc (mk:=λ(_:Unit)=>((i:Int),((k+1:Nat):Int),x,()))
   simp
  simp
def gX(l:List a_):List a_:=(ev 0 99).filterMap λid=>l.find? λs=>s.1 == id
def fv(c:aZ):List a_:=(gX c.2.1).filter λs=>!c.2.2.1.contains s.1
theorem alR(l:List a_):(gX l).length<=100:=by
 refine Nat.le_trans (List.length_filterMap_le _ _) ?_;rw[show (ev 0 99).length=100 from by decide];omega
def jy(m:List (Int×a_))(k:Int):Option a_:=(m.find? λp=>decide (k=p.1)).map (·.2)
def jf(m:List (Int×a_)):z1':=m.map (·.1)
theorem OC(p:Int×a_)(m:List (Int×a_))(k:Int)(v:a_):kW (p::m) k v=if decide (k=p.1)=true then (p.1,v)::m else p::kW m k v:=rfl
theorem OD(k:Int)(v:a_):kW [] k v=[(k,v)]:=rfl
theorem Xy(k:Int)(v:a_):∀ m:List (Int×a_),(kW m k v).length<=m.length+1
 | []=>by rw[OD];simp
 | p::m=>by
  rw[OC];split
  ·simp
  ·simp;exact Xy k v m
theorem OE(k:Int)(v:a_)(x:Int):∀ m:List (Int×a_),jy (kW m k v) x=if x=k then some v else jy m x
 | []=>by
  rw[OD];by_cases h:x=k<;>simp[jy,h]
 | p::m=>by
  rw[OC];have aJ:=OE k v x m;unfold jy at aJ ⊢;grind
theorem Ec(k:Int)(v:a_):∀ m:List (Int×a_),((jf m).Nodup->(jf (kW m k v)).Nodup)/\∀ x,x∈jf (kW m k v)<->x∈jf m\/x=k
 | []=>by rw[OD];simp[jf]
 | p::m=>by
  obtain⟨E,U⟩:=Ec k v m;rw[OC];by_cases h:k=p.1
  ·subst h;simp only[decide_true,if_true];refine⟨λh=>h,λx=>?_⟩;show x∈p.1::jf m<->x∈p.1::jf m\/x=p.1;grind
  ·simp only[h,decide_false,Bool.false_eq_true,if_false];refine⟨λaw=>?_,λx=>?_⟩
   ·show (p.1::jf (kW m k v)).Nodup;have CF:(p.1::jf m).Nodup:=aw;grind
   ·show x∈p.1::jf (kW m k v)<->x∈p.1::jf m\/x=k;grind
theorem Xz{m:List (Int×a_)}{k:Int}:k∈jf m<->(jy m k).isSome=true:=by
 unfold jy jf;simp
def AG(l:List a_):Prop:=∀ a∈l,∀ b∈l,a.1=b.1->a=b
def qw(l:List a_)(k:Int):Option a_:=l.find? λs=>s.1 == k
def ru:List a_->List (Int×a_)->Option (List (Int×a_))
 | [],m=>some m
 | s::l,m=>if ((jy m s.1).isSome&&!decide ((jy m s.1).getD jx=s))=true then none else ru l (kW m s.1 s)
structure uh(P:List a_)(m:List (Int×a_)):Prop where
 oP:∀ k,jy m k=qw P k
 mq:(jf m).Nodup
 AH:AG P
 Ed:m.length<=P.length
theorem XA{l:List a_}{k:Int}{s:a_}(h:qw l k=some s):s∈l/\s.1=k:=by
 unfold qw at h;grind
theorem alS{l:List a_}{k:Int}(h:qw l k=none):∀ s∈l,s.1≠k:=by
 unfold qw at h;grind
theorem uh.nil:uh [] []:=⟨λ_=>rfl,.nil,λa h=>by simp,Nat.le_refl _⟩
theorem AI:∀ (l P:List a_) (m:List (Int×a_)),uh P m->(AG (P++l)->∃ dz,ru l m=some dz/\uh (P++l) dz)/\(¬AG (P++l)->ru l m=none)
 | [],P,m,h=>by simp only[List.append_nil];exact⟨λ_=>⟨m,rfl,h⟩,λaw=>absurd h.AH aw⟩
 | s::l,P,m,h=>by
  unfold ru;rw[h.oP];cases ao:qw P s.1 with
  | some o=>
   obtain⟨af,G⟩:=XA ao;by_cases he:o=s
   ·subst he;simp only[Option.isSome_some,Option.getD_some,decide_true,Bool.not_true,Bool.and_false,Bool.false_eq_true,if_false];have:=AI l (P++[o]) (kW m o.1 o) ⟨λk=>?_,(Ec _ _ _).1 h.mq,?_,?_⟩
    ·grind
    ·rw[OE,h.oP];unfold qw at ao ⊢;grind
    ·intro a a8 b W vM;simp only[List.mem_append,List.mem_singleton]at a8 W;exact h.AH a (a8.elim id λe=>e ▸ af) b (W.elim id λe=>e ▸ af) vM
    ·have hm:o.1∈jf m:=Xz.2 (by rw[h.oP,ao];rfl);have aj:(jf (kW m o.1 o)).length<=(jf m).length:=by
      have E:=(Ec o.1 o m).1 h.mq;have U:jf (kW m o.1 o) ⊆ jf m:=λx ag=>by
       rcases ((Ec o.1 o m).2 x).1 ag with ag | ag
       ·exact ag
       ·exact ag ▸ hm
      exact E.length_le_of_subset U
     have:=h.Ed;simp only[jf,List.length_map]at aj;grind
   ·simp only[Option.isSome_some,Option.getD_some,he,decide_false,Bool.not_false,Bool.and_self,if_true];refine⟨λaw=>absurd (aw o (by grind) s (by simp) G) he,λ_=>trivial⟩
  | none=>
   simp only[Option.isSome_none,Bool.false_and,Bool.false_eq_true,if_false];have:=AI l (P++[s]) (kW m s.1 s) ⟨λk=>?_,(Ec _ _ _).1 h.mq,?_,?_⟩
   ·grind
   ·rw[OE,h.oP];have rf:=ao;unfold qw at ao ⊢;grind
   ·have ao:=alS ao;intro a a8 b W vM;simp only[List.mem_append,List.mem_singleton]at a8 W;rcases a8 with a8 | rfl<;>rcases W with W | rfl
    ·exact h.AH a a8 b W vM
    ·exact absurd vM (ao a a8)
    ·exact absurd vM.symm (ao b W)
    ·rfl
   ·have:=Xy s.1 s m;have:=h.Ed;grind
theorem AJ(l:List a_):k0 l=false<->AG l:=by
 unfold k0 ue;rw[<-Bool.not_eq_true,List.any_eq_true];constructor
 ·intro h a a8 b W vM;obtain⟨i,G,rfl⟩:=List.mem_iff_getElem.1 a8;obtain⟨k,al,rfl⟩:=List.mem_iff_getElem.1 W;by_cases he:l[i]=l[k]
  ·exact he
  ·exfalso;have eP:i≠k:=λe=>he (by grind);rcases Nat.lt_or_gt_of_ne eP with cc | cc
   ·refine h ⟨k,by grind,List.any_eq_true.2 ⟨i,by grind,?_⟩⟩;grind
   ·refine h ⟨i,by grind,List.any_eq_true.2 ⟨k,by grind,?_⟩⟩;grind
 ·rintro h ⟨i,G,al⟩;obtain⟨k,al,hc⟩:=List.any_eq_true.1 al;simp only[List.mem_range]at G al;rw[sN G,sN (by omega:k<l.length)]at hc;simp only[Bool.and_eq_true,decide_eq_true_eq,Bool.not_eq_true',decide_eq_false_iff_not]at hc;exact hc.2 (h _ (List.getElem_mem _) _ (List.getElem_mem _) hc.1)
theorem alT{l:List a_}:k0 l=true<->¬AG l:=by rw[<-AJ];simp
theorem XB{l:List a_}{m:List (Int×a_)}(h:uh l m)(hid:∀ s∈l,bZ s.1 0 99=true):(fu hr (jf m)).map (λk=>(jy m k).getD jx)=gX l:=by
 have ax:fu hr (jf m)=(ev 0 99).filter λk=>(qw l k).isSome:=by
  refine AA ?_ ?_
  ·refine List.Pairwise.filter _ ?_;unfold ev;rw[List.pairwise_map];exact (List.pairwise_lt_range).imp λh=>by omega
  ·refine (List.perm_ext_iff_of_nodup h.mq ?_).2 λk=>?_
   ·refine List.Pairwise.filter _ ?_;unfold ev;rw[List.pairwise_map];exact (List.pairwise_lt_range).imp λh=>by omega
   ·rw[Xz,h.oP,List.mem_filter,sC];refine⟨λaD=>⟨?_,aD⟩,λaD=>aD.2⟩;obtain⟨s,aD⟩:=Option.isSome_iff_exists.1 aD;obtain⟨E,U⟩:=XA aD;exact U ▸ oT.1 (hid s E)
 rw[ax];unfold gX;have:∀ L:z1',(L.filter λk=>(qw l k).isSome).map (λk=>(jy m k).getD jx)=L.filterMap λid=>l.find? λs=>s.1 == id:=by
  intro L;induction L with
  | nil=>rfl
  | cons k L aJ=>
   rw[List.filter_cons,List.filterMap_cons];have e:(l.find? λs=>s.1 == k)=qw l k:=rfl;rw[e];cases ao:qw l k with
   | none=>grind
   | some s=>
    have ib:(jy m k).getD jx=s:=by rw[h.oP,ao];rfl
    grind
 grind
theorem alU{l:List a_}{m:List (Int×a_)}(h:uh l m)(hid:∀ s∈l,bZ s.1 0 99=true):(gX l).length<=l.length:=by
 rw[<-XB h hid,List.length_map,H2,jf,List.length_map];exact h.Ed
theorem XC{aI:Type}{r:aI}{fin:List (Int×a_)->aI}:∀ (l:List a_) (m:List (Int×a_)),eZ (λs m=>if ((jy m s.1).isSome&&!decide ((jy m s.1).getD jx=s))=true then .done r else .next (kW m s.1 s)) fin l m=match ru l m with | none=>r | some dz=>fin dz
 | [],m=>rfl
 | s::l,m=>by
  simp only[eZ,ru];by_cases h:((jy m s.1).isSome&&!decide ((jy m s.1).getD jx=s))=true
  ·grind
  ·simp only[h,Bool.false_eq_true,if_false];exact XC l _
def vN(l:List a_):Prop:=l.length<=24/\∀ s∈l,bZ s.1 0 99=true
abbrev AK:aL:=⟨.slice hp,.az (.slice hp) .bool,vN,λl=>if k0 l=true then ([],false) else (gX l,true)⟩
theorem alV{m:List (Int×a_)}{x':z1'}{aI:Type}(h:x'.length<=24) :
 A.loop (λ(D:z1'×Int×Int×List a_×List (Int×a_)×Unit)=>if decide (D.2.2.1<D.2.1)=true then A.ab (0<=D.2.2.1/\D.2.2.1<Int.ofNat (List.length D.1)) (A.ab (bM
 (Add.add (List.length D.2.2.2.1) (Add.add 0 1))) (A.pure (V.next (D.1,D.2.1,IntKind.wrap .i64 (Add.add D.2.2.1 1),D.2.2.2.1++[Option.getD
 (Option.map (λx=>x.2) (List.find? (λp=>decide (List.getD D.1 (Int.toNat D.2.2.1) 0=p.1)) D.2.2.2.2.1)) (0,0,0,0,0,0)],D.2.2.2.2.1,())))) else A.bind (A.pure (V.next (D.2.2.2.1,()))) λr=>A.pure (V.done r)) (x',Int.ofNat (List.length x'),0,[],m,())=A.pure (V.next (x'.map (λk=>(jy m k).getD jx),()):V (List a_×Unit) aI):=by
 rw[A.fC x' (λi (b:List a_)=>(x',(x'.length:Int),(i:Int),b,m,())) (λk b=>.next (b++[(jy m k).getD jx])) (λb=>.next (b,())) (λi b=>b.length=i) [] ?_ ?_ ?_ ?_]
 ·rw[dP,qq];rfl
 ·rfl
 ·rfl
 ·intro i G b W;have hw:=bC (n:=(i:Int)+1) (by omega) (by omega);refine⟨?_,λbd cR=>?_⟩
  ·simp only[bV,cT G,if_true,df G,cG G,A.br,ch,hw];rw[A.bo (e7 (by grind))];rfl
  grind
 simp
def sO{gx:Type}(R:A gx):List a_×Int×Int×List (Int×a_)×Unit->A (V (List a_×Int×Int×List (Int×a_)×Unit) (V (List (Int×a_)×Unit) gx)):=λ(D:List a_×Int×Int×List (Int×a_)×Unit)=>if decide (D.2.2.1<D.2.1)=true then A.ab (0<=D.2.2.1/\D.2.2.1 <
 Int.ofNat (List.length D.1)) (if (Option.isSome (Option.map (λx=>x.2) (List.find? (λp=>decide ((List.getD D.1 (Int.toNat D.2.2.1) (0,0,0,0,0,0)).1=p.1)) D.2.2.2.1))&&!(decide ((Option.getD (Option.map (λx=>x.2) (List.find? (λp=>decide ((List.getD D.1 (Int.toNat D.2.2.1)
 (0,0,0,0,0,0)).1=p.1)) D.2.2.2.1)) (0,0,0,0,0,0)).1=(List.getD D.1 (Int.toNat D.2.2.1) (0,0,0,0,0,0)).1)&&(decide ((Option.getD
 (Option.map (λx=>x.2) (List.find? (λp=>decide ((List.getD D.1 (Int.toNat D.2.2.1) (0,0,0,0,0,0)).1=p.1)) D.2.2.2.1)) (0,0,0,0,0,0)).2.1=(List.getD D.1 (Int.toNat D.2.2.1) (0,0,0,0,0,0)).2.1)&&(decide ((Option.getD (Option.map (λx=>x.2) (List.find? (λp=>
 decide ((List.getD D.1 (Int.toNat D.2.2.1) (0,0,0,0,0,0)).1=p.1)) D.2.2.2.1)) (0,0,0,0,0,0)).2.2.1=(List.getD D.1 (Int.toNat D.2.2.1)
 (0,0,0,0,0,0)).2.2.1)&&(decide ((Option.getD (Option.map (λx=>x.2) (List.find? (λp=>decide ((List.getD D.1 (Int.toNat D.2.2.1) (0,0,0,0,0,0)).1=p.1)) D.2.2.2.1)) (0,0,0,0,0,0)).2.2.2.1=(List.getD D.1 (Int.toNat D.2.2.1) (0,0,0,0,0,0)).2.2.2.1)&&(decide
 ((Option.getD (Option.map (λx=>x.2) (List.find? (λp=>decide ((List.getD D.1 (Int.toNat D.2.2.1) (0,0,0,0,0,0)).1=p.1)) D.2.2.2.1))
 (0,0,0,0,0,0)).2.2.2.2.1=(List.getD D.1 (Int.toNat D.2.2.1) (0,0,0,0,0,0)).2.2.2.2.1)&&decide ((Option.getD (Option.map (λx=>x.2)
 (List.find? (λp=>decide ((List.getD D.1 (Int.toNat D.2.2.1) (0,0,0,0,0,0)).1=p.1)) D.2.2.2.1)) (0,0,0,0,0,0)).2.2.2.2.2=(List.getD
 D.1 (Int.toNat D.2.2.1) (0,0,0,0,0,0)).2.2.2.2.2)))))))=true then A.bind (A.bind R λr=>A.pure (V.done r)) λr=>
 A.pure (V.done r) else A.pure (V.next (D.1,D.2.1,IntKind.wrap .i64 (Add.add D.2.2.1 1),kW D.2.2.2.1 (List.getD D.1 (Int.toNat D.2.2.1)
 (0,0,0,0,0,0)).1 (List.getD D.1 (Int.toNat D.2.2.1) (0,0,0,0,0,0)),()))) else A.bind (A.pure (V.next (D.2.2.2.1,()))) λr=>A.pure
 (V.done r)
theorem XD{gx:Type}{R:A gx}{l:List a_}(aj:l.length<=24){i:Nat}(G:i<l.length)(m:List (Int×a_)):sO R (l,(l.length:Int),(i:Int),m,())=if ((jy m l[i].1).isSome&&!decide ((jy m l[i].1).getD jx=l[i]))=true then A.bind (A.bind R λr=>A.pure (V.done r)) λr=>A.pure (V.done r) else A.pure (.next (l,(l.length:Int),((i+1:Nat):Int),kW m l[i].1 l[i],())):=by
 have hw:=bC (n:=(i:Int)+1) (by omega) (by omega);have es:=Xh ((jy m l[i].1).getD jx) l[i];unfold sO;simp only[bV,cT G,if_true,df G,cG G,A.br,ch,hw];rw[show (Option.map (λx=>x.2) (List.find? (λp=>decide (l[i].1=p.1)) m))=jy m l[i].1 from rfl];grind
theorem XE{gx:Type}{R:A gx}{l:List a_}(m:List (Int×a_)):sO R (l,(l.length:Int),(l.length:Int),m,())=A.pure (.done (.next (m,()))):=by
 unfold sO;simp
def AL{gx:Type}(k:List a_->A gx):List (Int×a_)×Unit->A gx:=λ(D:List (Int×a_)×Unit)=>A.bind (A.bind
 (x_.sh D.1) λy=>A.bind (sJ.sh y) λy=>A.loop (λ(D:z1'×Int×Int×List a_×
 List (Int×a_)×Unit)=>if decide (D.2.2.1<D.2.1)=true then A.ab (0<=D.2.2.1/\D.2.2.1<Int.ofNat (List.length D.1)) (A.ab (bM
 (Add.add (List.length D.2.2.2.1) (Add.add 0 1))) (A.pure (V.next (D.1,D.2.1,IntKind.wrap .i64 (Add.add D.2.2.1 1),D.2.2.2.1++[Option.getD
 (Option.map (λx=>x.2) (List.find? (λp=>decide (List.getD D.1 (Int.toNat D.2.2.1) 0=p.1)) D.2.2.2.2.1)) (0,0,0,0,0,0)],D.2.2.2.2.1,())))) else A.bind (A.pure (V.next (D.2.2.2.1,()))) λr=>A.pure (V.done r)) (y,Int.ofNat (List.length y),0,[],D.1,())) (V.bz λ(D
 : List a_×Unit)=>k D.1)
theorem alW{l:List a_}{m:List (Int×a_)}(eB:uh l m)(hid:vN l){gx:Type}(k:List a_->A gx):AL k (m,())=k (gX l):=by
 obtain⟨aj,hid⟩:=hid;have an:sJ.pre (jT (some m)):=Xu (by have:=eB.Ed;omega);have e:sJ.sh (jT (some m))=A.pure (fu hr (jf m)):=by
  refine (A.bR an _).trans (congrArg A.pure ?_);exact Xv
 unfold AL;show A.bind (A.bind (x_.sh m) _) _=_;rw[show x_.sh m=A.pure (jT (some m)) from rfl,A.aF,e,A.aF,alV (by rw[H2,jf,List.length_map];have:=eB.Ed;omega),A.aF,A.bX,XB eB hid]
theorem XF(l:List a_)(h:vN l)(hc:k0 l=false){gx:Type}(k:List a_->A gx)(R:A gx) :
  A.bind (A.loop (sO R) (l,Int.ofNat (List.length l),0,[],())) (V.bz (AL k))=k (gX l):=by
 have aw:=(AJ l).1 hc;obtain⟨E,_⟩:=AI l [] [] .nil;rw[List.nil_append]at E;obtain⟨m,hm,eB⟩:=E aw;have key:A.loop (sO R) (l,Int.ofNat (List.length l),0,[],())=A.pure (.next (m,())):=by
  have gen:∀ (k:Nat) (i:Nat) (dz:List (Int×a_)),l.length - i=k->i<=l.length->ru (l.drop i) dz=some m->uh (l.take i) dz->A.loop (sO R) (l,(l.length:Int),(i:Int),dz,())=A.pure (.next (m,())):=by
   intro k;induction k with
   | zero=>
    intro i dz al G af _;have:i=l.length:=by omega
    subst this;rw[List.drop_length]at af;simp only[ru,Option.some.injEq]at af;subst af;exact A.rS (XE _)
   | succ k aJ=>
    intro i dz al G af Nj;have G:i<l.length:=by omega
    rw[List.drop_eq_getElem_cons G]at af;unfold ru at af;split at af
    ·cases af
    ·rename_i F5;refine (A.yX ((XD h.1 G dz).trans (if_neg F5))).trans ?_;refine aJ (i+1) _ (by omega) G af ?_;obtain⟨g1,_⟩:=AI [l[i]] (l.take i) dz Nj;have pH:l.take i++[l[i]]=l.take (i+1):=by simp
     rw[pH]at g1;obtain⟨ayd,ax,aM⟩:=g1 λa a8 b W=>aw a (List.mem_of_mem_take a8) b (List.mem_of_mem_take W);unfold ru at ax;rw[if_neg F5]at ax;simp only[ru,Option.some.injEq]at ax;grind
  exact gen l.length 0 [] rfl (Nat.zero_le _) hm .nil
 rw[key,A.aF,A.bX,alW eB h]
theorem alX(l:List a_)(h:vN l)(hc:k0 l=true){gx:Type}(k:List a_->A gx)(r:gx) :
  A.bind (A.loop (sO (A.pure r)) (l,Int.ofNat (List.length l),0,[],())) (V.bz (AL k))=A.pure r:=by
 rw[A.dB l (λi (m:List (Int×a_))=>(l,(l.length:Int),(i:Int),m,())) (λs m=>if ((jy m s.1).isSome&&!decide ((jy m s.1).getD jx=s))=true then (.done (.done r):V (List (Int×a_)) (V (List (Int×a_)×Unit) _)) else .next (kW m s.1 s)) (λm=>.next (m,())) [] ?_ ?_ ?_]
 ·rw[XC];obtain⟨_,U⟩:=AI l [] [] .nil;rw[U (alT.1 hc)];simp
 ·rfl
 ·intro i G m;rw[XD h.1 G m,A.aF,A.aF];exact VA (mk:=λ(m:List (Int×a_))=>(l,(l.length:Int),((i+1:Nat):Int),m,()))
 ·intro m;exact XE m
theorem alY(x):A.le (akS sJ.sh x_.sh x) (AK.sh x):=A.bu λh=>by
 show A.bind (A.loop (sO (A.pure ([],false))) (x,Int.ofNat (List.length x),0,[],())) (V.bz (AL λa=>A.pure (a,true)))=A.pure (if k0 x=true then ([],false) else (gX x,true));cases hc:k0 x with
 | true=>exact alX x h hc _ _
 | false=>exact XF x h hc _ _
def H8(x:List a_×Unit):A (Bool×List a_×Unit):=A.dR (vN x.1/\k0 x.1=false) (true,gX x.1,())
theorem alZ(x):A.le (ak5 sJ.sh x_.sh x) (H8 x):=A.bu λh=>by
 show A.bind (A.loop (sO (A.pure (false,[],()))) (x.1,Int.ofNat (List.length x.1),0,[],())) (V.bz (AL λa=>A.pure (true,a,())))=_;exact XF x.1 h.1 h.2 _ _
theorem H9{c:aZ}(h:jU c=true):vN c.2.1:=by
 unfold jU sL at h;simp only[Bool.and_eq_true,List.all_eq_true,Bool.not_eq_true',Bool.or_eq_false_iff,decide_eq_false_iff_not]at h;obtain⟨⟨⟨⟨⟨bk,_⟩,_⟩,U⟩,_⟩,_⟩:=h;refine⟨by omega,λs aD=>?_⟩;have:=U s aD;unfold ly at this;grind
theorem al0(x):A.le (Wr vK.sh AK.sh x) (hZ.sh x):=A.bu λh=>by
 unfold Wr;show _=A.pure (cM x);rw[show vK.sh x=A.pure (jU x) from A.bR h _];unfold cM;cases hc:jU x with
 | false=>simp
 | true=>
  simp only[A.aF,Bool.not_true,Bool.false_eq_true,if_false,if_true];rw[show AK.sh x.2.1=A.pure (if k0 x.2.1=true then ([],false) else (gX x.2.1,true)) from A.bR (H9 hc) _];cases k0 x.2.1<;>simp
def H_(x:(a_->A Bool)×List a_×Unit):A ((Nat×Nat)×List a_×Unit):=A.dR (x.2.1.length<2 ^ 63/\∀ y∈x.2.1,∃ b,x.1 y=A.pure b)
 ((0,(x.2.1.filter λs=>!(x.1 s).val false).length),(x.2.1.filter λs=>!(x.1 s).val false)++List.replicate (x.2.1.length - (x.2.1.filter λs=>!(x.1 s).val false).length) jx,())
theorem XG{ak:Type}(p:ak->Bool):∀ (l:List ak) (i:Int),(l.any p=true->∃ k:Nat,∃ h:k<l.length,hO p l i=i+k/\p l[k]=true/\(∀ y∈l.take k,p y=false))
 | [],i,h=>by grind
 | x::l,i,h=>by
  unfold hO;by_cases ag:p x=true
  ·grind
  ·have nM:p x=false:=by grind
   simp only[List.any_cons,nM,Bool.false_or]at h;obtain⟨k,al,E,U,ah⟩:=XG p l (i+1) h;refine⟨k+1,by grind,by grind,by grind,?_⟩;grind
theorem al1(x):A.le (W9 (kZ hp).sh x) (H_ x):=A.bu λh=>by
 obtain⟨f,l,u⟩:=x;obtain⟨E,U⟩:=h;change l.length<2 ^ 63 at E;change ∀ y∈l,∃ b,f y=A.pure b at U;unfold W9;rw[show (kZ hp).sh (l,f)=A.pure (hO (λy=>(f y).val false) l 0) from A.bR ⟨E,U⟩ _];rw[A.aF];by_cases a8:(l.any λy=>(f y).val false)=true
 ·obtain⟨k,al,ax,aM,cD⟩:=XG (λy=>(f y).val false) l 0 a8;have hw:=bC (n:=(k:Int)+1) (by omega) (by omega);have eP:¬(decide ((0:Int)+k=-1)=true):=by simp
  rw[ax,if_neg eP];generalize bt:(λs=>!(f s).val false)=q at *
  have al2:∀ s,(!(f s).val false)=q s:=λs=>by grind
  have pH:l.take k=(l.take k).filter q:=by
   rw[List.filter_eq_self.2];grind
  have H4:(l.take (k+1)).filter q=l.take k:=by
   rw[List.take_add_one,List.getElem?_eq_getElem al,Option.toList_some,List.filter_append,<-pH];grind
  rw[A.dB (l.drop (k+1)) (λi (_:Unit)=>(f,(((l.take (k+1+i)).filter q).length:Int),((k+1+i:Nat):Int),(l.take (k+1+i)).filter q++l.drop ((l.take (k+1+i)).filter q).length,())) (λ_ u=>.next u) (λ_=>.next (((l.filter q).length:Int),l.filter q++l.drop (l.filter q).length,())) () ?_ ?_ ?_]
  ·rw[dP];have hlen:(l.filter q).length<=l.length:=List.length_filter_le _ _;have gq:(l.filter q++l.drop (l.filter q).length).length=l.length:=by grind
   simp only[A.aF,A.bX,bV,gq];rw[A.bo (by omega)];simp only[A.br,Int.toNat_natCast];have Ee:List.take (l.filter q).length (l.filter q++l.drop (l.filter q).length)=l.filter q:=List.take_left;rw[Ee];refine (A.bo ⟨by omega,by omega,by grind⟩ _).trans ?_;refine congrArg A.pure (Prod.ext rfl (Prod.ext ?_ rfl));show (_++_++_:List a_)=_;exact (congrArg (λz=>_++z) (List.drop_eq_nil_iff.2 (by simp))).trans (List.append_nil _)
  ·show (f,(0:Int)+k,IntKind.wrap .i64 (Add.add ((0:Int)+k) 1),l,())=_;rw[Int.zero_add,ch,hw];refine Prod.ext rfl (Prod.ext ?_ (Prod.ext ?_ (Prod.ext ?_ rfl)))
   ·grind
   ·rfl
   ·show l=(l.take (k+1+0)).filter q++l.drop ((l.take (k+1+0)).filter q).length;rw[Nat.add_zero,H4,List.length_take,Nat.min_eq_left (by omega),List.take_append_drop]
  ·intro i G _;have G:k+1+i<l.length:=by grind
   have hle:((l.take (k+1+i)).filter q).length<=k+i:=by
    have E:=List.length_filter_le q (l.drop (k+1) |>.take i);rw[List.take_add,List.filter_append,List.length_append,H4];grind
   have cc:((l.take (k+1+i)).filter q).length<l.length:=by omega
   have lP:((l.take (k+1+i)).filter q++l.drop ((l.take (k+1+i)).filter q).length).length=l.length:=by grind
   have hw:=bC (n:=((k+1+i:Nat):Int)+1) (by omega) (by omega);have gU:=bC (n:=(((l.take (k+1+i)).filter q).length:Int)+1) (by omega) (by omega);have dv:k+1+i<((l.take (k+1+i)).filter q++l.drop ((l.take (k+1+i)).filter q).length).length:=by omega
   have Co:((l.take (k+1+i)).filter q).length<((l.take (k+1+i)).filter q++l.drop ((l.take (k+1+i)).filter q).length).length:=by omega
   have jw:((l.take (k+1+i)).filter q++l.drop ((l.take (k+1+i)).filter q).length)[k+1+i]=l[k+1+i]:=by
    rw[List.getElem_append_right (by omega),List.getElem_drop];congr 1;omega
   obtain⟨b,W⟩:=U _ (List.getElem_mem G);have ae:q l[k+1+i]=!b:=by rw[<-al2,W,A.fs]
   have pH:(l.take (k+1+(i+1))).filter q=(l.take (k+1+i)).filter q++(if (!b)=true then [l[k+1+i]] else []):=by
    rw[show k+1+(i+1)=k+1+i+1 from rfl,List.take_add_one,List.getElem?_eq_getElem G,Option.toList_some,List.filter_append,List.filter_cons,ae,List.filter_nil]
   simp only[bV,cT dv,if_true,df dv,cG dv,cG Co,A.br,jw,W,A.aF,ch,gU];simp only[Int.toNat_natCast];cases b with
   | true=>
    simp only[Bool.not_true,Bool.false_eq_true,if_false,A.aF,A.bX,hw,V.hn,List.append_nil]at pH ⊢;grind
   | false=>
    simp only[Bool.not_false,if_true,A.aF,A.bX,hw,V.hn]at pH ⊢;have es:(List.filter q (List.take (k+1+i) l)++List.drop (List.filter q (List.take (k+1+i) l)).length l).set (List.filter q (List.take (k+1+i) l)).length l[k+1+i]=(l.take (k+1+(i+1))).filter q++l.drop ((l.take (k+1+(i+1))).filter q).length:=by
     rw[pH,List.set_append_right _ _ (Nat.le_refl _),Nat.sub_self,List.drop_eq_getElem_cons cc,List.set_cons_zero];simp
    rw[es];have MM:(((l.take (k+1+i)).filter q).length:Int)+1=(((l.take (k+1+(i+1))).filter q).length:Int):=by grind
    grind
  ·intro _;have aj:(l.drop (k+1)).length=l.length - (k+1):=by simp
   have bG:k+1+(l.drop (k+1)).length=l.length:=by omega
   have hle:(l.filter q).length<=l.length:=List.length_filter_le _ _;simp only[bG,List.take_length];rw[if_neg (by grind),A.aF]
 ·rw[D' _ _ a8];have:(l.filter λs=>!(f s).val false)=l:=by
   simp_all
  simp only[decide_true,if_true,this,Nat.sub_self,List.replicate_zero,List.append_nil]
abbrev bG:bA:=((0,0,0,0,0,0),0)
def oW(c:aZ)(w:z1')(u:Int):List bA:=((fv c).filter λs=>decide (ud s=u)).map λs=>(s,x7 s+w.getD (pE s).toNat 0)
def b5(c:aZ)(w:z1')(u:Int):List bA:=fu hY (oW c w u)
def qx(l:List bA)(i:Nat):Bool:=!(decide (0<i)&&decide ((l.getD i bG).2=(l.getD (i - 1) bG).2))&&decide (eo (l.getD i bG).1=1+((i % 2:Nat):Int))
def eE(l:List bA):Bool:=(List.range l.length).all (qx l)
structure gY(c:aZ):Prop where
 OF:cM c=0
 ec:c.1.length<=3
 ef:c.2.1.length<=12
 jl:c.2.2.1.length<=12
 n4:c.2.2.2.1.length<=4
 i_:jU c=true
 AH:AG c.2.1
 OG:pF c.2.2.2.2=true
 clk:∀ s∈c.1,-30<=s.1/\s.1<=s.2/\s.2<=30
 jg:∀ s∈c.2.1,ly c.1.length s=true
 iA:AF c.2.2.2.1=true
theorem oX{c:aZ}(h:cM c=0):gY c:=by
 have aX:=h;unfold cM at h;split at h
 ·rename_i hc;split at h
  ·omega
  ·rename_i aw;have lS:=hc;unfold jU sL at hc;simp only[Bool.and_eq_true,List.all_eq_true,Bool.not_eq_true',Bool.or_eq_false_iff,decide_eq_false_iff_not]at hc;obtain⟨⟨⟨⟨⟨⟨⟨⟨b8,a2⟩,a3⟩,a4⟩,a5⟩,gv⟩,gw⟩,h0⟩,a9⟩:=hc;refine⟨aX,by omega,by omega,by omega,by omega,lS,(AJ _).1 (by grind),a5,λs aD=>?_,gw,a9⟩;have:=gv s aD;unfold sK at this;simp only[Bool.and_eq_true,Bool.not_eq_true',decide_eq_false_iff_not,oT]at this;omega
 omega
theorem AM{n:Nat}{s:a_}:ly n s=true<->(0<=lx s/\lx s<=99)/\(0<=pE s/\pE s<=(n:Int) - 1)/\(0<=x7 s/\x7 s<=9999)/\(0<=ud s/\ud s<=9)/\(0<=iQ s/\iQ s<=99)/\(eo s=1\/eo s=2/\iQ s=0):=by
 unfold ly;simp only[Bool.and_eq_true,oT,Bool.or_eq_true,decide_eq_true_eq,and_assoc]
theorem gY.al3{c:aZ}(h:gY c):∃ m,uh c.2.1 m:=by
 obtain⟨E,_⟩:=AI c.2.1 [] [] .nil;rw[List.nil_append]at E;obtain⟨m,_,eB⟩:=E h.AH;grind
theorem gY.OH{c:aZ}(h:gY c):(fv c).length<=12:=by
 obtain⟨m,eB⟩:=h.al3;have E:=alU eB (H9 h.i_).2;have U:=List.length_filter_le (λs:a_=>!c.2.2.1.contains s.1) (gX c.2.1);have:=h.ef;unfold fv;omega
theorem Ef{l:List a_}{s:a_}(h:s∈gX l):s∈l:=by
 unfold gX at h;grind
theorem al4{c:aZ}{s:a_}(h:s∈fv c):s∈c.2.1:=Ef (List.mem_filter.1 h).1
theorem gY.AN{c:aZ}(h:gY c){s:a_}(aD:s∈fv c):ly c.1.length s=true:=h.jg s (al4 aD)
def pI(c:aZ)(w:z1'):Prop:=w.length=c.1.length/\∀ n∈w,-30<=n/\n<=30
theorem pI.at{c:aZ}{w:z1'}(h:pI c w)(aB:gY c){s:a_}(aD:s∈fv c):0<=pE s/\pE s<(w.length:Int)/\-30<=w.getD (pE s).toNat 0/\w.getD (pE s).toNat 0<=30:=by
 have E:=(AM.1 (aB.AN aD)).2.1;have aj:pE s<(w.length:Int):=by rw[h.1];omega
 exact⟨E.1,aj,h.2 _ (xY E.1 aj)⟩
theorem Eg{c:aZ}(h:gY c)(w:z1')(u:Int):(b5 c w u).length<=12:=by
 unfold b5 oW;rw[H2,List.length_map];exact Nat.le_trans (List.length_filter_le _ _) h.OH
theorem Eh{c:aZ}{w:z1'}{u:Int}{e:bA}(h:e∈b5 c w u):e.1∈fv c/\ud e.1=u/\e.2=x7 e.1+w.getD (pE e.1).toNat 0:=by
 unfold b5 at h;rw[Xm]at h;unfold oW at h;grind
theorem XH(i:Nat):Int.tmod (i:Int) 2=((i % 2:Nat):Int):=by
 rfl
theorem al5(l:List bA)(i:Nat):(decide ((i:Int) > 0)&&decide ((l.getD i bG).2=(l.getD (i - 1) bG).2)||decide (eo (l.getD i bG).1≠1+((i % 2:Nat):Int)))=!qx l i:=by
 unfold qx;simp
def kg(a b:Int)(s:Int×Int):Int:=max 0 (min (b - 1) s.2 - max a s.1+1)
def l3(cl:z4')(a b:Int):Int:=cl.foldl (λn s=>n - kg a b s) (b - a)
def XI(cl:z4'):Prop:=cl.length<=4/\∀ s∈cl,0<=s.1/\s.1<=s.2/\s.2<=9999
theorem gY.OI{c:aZ}(h:gY c):XI c.2.2.2.1:=by
 refine⟨h.n4,λs aD=>?_⟩;have:=h.iA;unfold AF at this;rw[List.all_eq_true]at this;obtain⟨i,G,rfl⟩:=List.mem_iff_getElem.1 aD;have:=this i (by grind);unfold iR at this;rw[sN G]at this;simp only[Bool.and_eq_true,oT,Bool.not_eq_true',decide_eq_false_iff_not]at this;omega
abbrev AO(x:aZ×Int×Int):Prop:=XI x.1.2.2.2.1/\-100<=x.2.1/\x.2.1<=x.2.2/\x.2.2<=11000
theorem al6{a b:Int}{s:Int×Int}(a8:-100<=a)(W:b<=11000)(aD:0<=s.1/\s.1<=s.2/\s.2<=9999):0<=kg a b s/\kg a b s<=20000:=by
 unfold kg;omega
theorem XJ{n:Int}:(if n > 0 then n else 0)=max 0 n:=by omega
theorem XK{a b:Int}:(if a<b then a else b)=min b a:=by omega
theorem al7{a b:Int}:(if a<b then a else b)=min a b:=by omega
theorem al8{a b:Int}:(if a > b then a else b)=max b a:=by omega
theorem al9{a b:Int}:(if a > b then a else b)=max a b:=by omega
abbrev vO:aL:=⟨.az iP (.az bx bx),bx,AO,λx=>l3 x.1.2.2.2.1 x.2.1 x.2.2⟩
theorem al_(x):A.le (WQ x) (vO.sh x):=A.bu λh=>by
 obtain⟨c,a,b⟩:=x;obtain⟨⟨E,U⟩,ah,a1,bK⟩:=h;change -100<=a at ah;change a<=b at a1;change b<=11000 at bK;change c.2.2.2.1.length<=4 at E;change ∀ s∈c.2.2.2.1,_ at U;unfold WQ;have Ag:=bC (n:=b - a) (by omega) (by omega);rw[A.fC c.2.2.2.1 (λi (n:Int)=>(a,b,n,c.2.2.2.1,(c.2.2.2.1.length:Int),(i:Int),())) (λs n=>.next (n - kg a b s)) (λn=>.next (n,())) (λi n=>-(20000*(i:Int))<=n/\n<=20000) (b - a) ?_ ?_ ?_ ?_]
 ·rw[dP,A.aF];rfl
 ·grind
 ·omega
 ·intro i G n aw;have aD:=U _ (List.getElem_mem G);have hc:=al6 (a:=a) (b:=b) ah bK aD;have hw:=bC (n:=(i:Int)+1) (by omega) (by omega);refine⟨?_,λbd cR=>?_⟩
  ·simp only[Prod.db,bV,cT G,if_true,df G,cG G,A.br,ch,hw];have cn:=bC (n:=b - 1) (by omega) (by omega);have c_:=bC (n:=min (b - 1) c.2.2.2.1[i].2 - max a c.2.2.2.1[i].1) (by omega) (by omega);have eY:=bC (n:=min (b - 1) c.2.2.2.1[i].2 - max a c.2.2.2.1[i].1+1) (by omega) (by omega);have AP:=bC (n:=n - kg a b c.2.2.2.1[i]) (by omega) (by omega);simp only[cn,al7,al9,c_,eY,XJ];rw[show max (min (b - 1) c.2.2.2.1[i].2 - max a c.2.2.2.1[i].1+1) 0=kg a b c.2.2.2.1[i] from Int.max_comm _ _,AP];rfl
  grind
 simp
def lz(t:pC)(m:Int):Int:=if m>=t.2.2.2.2.1 then t.2.2.2.2.2.1 else min t.2.2.2.1 ((max 0 (m - t.1)+t.2.1 - 1) / t.2.1*t.2.2.1)
abbrev ya(x:pC×Int):Prop:=pF x.1=true/\-100000<=x.2/\x.2<=20000
abbrev vP:aL:=⟨.az Ot bx,bx,ya,λx=>lz x.1 x.2⟩
theorem Ia{t:pC}:pF t=true<->(0<=t.1/\t.1<=9999)/\(1<=t.2.1/\t.2.1<=9999)/\(1<=t.2.2.2.2.1/\t.2.2.2.2.1<=9999)/\(0<=t.2.2.1/\t.2.2.1<=100000)/\(0<=t.2.2.2.1/\t.2.2.2.1<=100000)/\(0<=t.2.2.2.2.2.1/\t.2.2.2.2.2.1<=100000)/\(0<=t.2.2.2.2.2.2/\t.2.2.2.2.2.2<=100000):=by
 unfold pF;simp only[Bool.and_eq_true,oT,and_assoc]
theorem XL{t:pC}{m:Int}(h:ya (t,m)):0<=(max 0 (m - t.1)+t.2.1 - 1) / t.2.1/\(max 0 (m - t.1)+t.2.1 - 1) / t.2.1<=30000/\0<=(max 0 (m - t.1)+t.2.1 - 1) / t.2.1*t.2.2.1/\(max 0 (m - t.1)+t.2.1 - 1) / t.2.1*t.2.2.1<=3000000000:=by
 obtain⟨E,U,ah⟩:=h;change -100000<=m at U;change m<=20000 at ah;obtain⟨b8,a2,a3,a4,a5,gv,gw⟩:=(Ia (t:=t)).1 E;have dL:0<=(max 0 (m - t.1)+t.2.1 - 1) / t.2.1:=Int.ediv_nonneg (by omega) (by omega);have eA:(max 0 (m - t.1)+t.2.1 - 1) / t.2.1<=max 0 (m - t.1)+t.2.1 - 1:=Int.ediv_le_self _ (by omega);have mG:(max 0 (m - t.1)+t.2.1 - 1) / t.2.1<=30000:=by omega
 refine⟨dL,mG,Int.mul_nonneg dL a4.1,?_⟩;calc (max 0 (m - t.1)+t.2.1 - 1) / t.2.1*t.2.2.1<=30000*100000:=Int.mul_le_mul mG a4.2 a4.1 (by omega)
  _=3000000000:=by decide
theorem al'{t:pC}{m:Int}(h:ya (t,m)):0<=lz t m/\lz t m<=100000:=by
 have:=XL h;obtain⟨E,U,ah⟩:=h;obtain⟨b8,a2,a3,a4,a5,gv,gw⟩:=(Ia (t:=t)).1 E;unfold lz;omega
theorem ama(x):A.le (WC x) (vP.sh x):=A.bu λh=>by
 obtain⟨t,m⟩:=x;have hu:=XL h;obtain⟨E,U,ah⟩:=h;change -100000<=m at U;change m<=20000 at ah;obtain⟨b8,a2,a3,a4,a5,gv,gw⟩:=(Ia (t:=t)).1 E;have cn:=bC (n:=m - t.1) (by omega) (by omega);have c_:=bC (n:=max 0 (m - t.1)+t.2.1) (by omega) (by omega);have eY:=bC (n:=max 0 (m - t.1)+t.2.1 - 1) (by omega) (by omega);have AP:=bC (n:=(max 0 (m - t.1)+t.2.1 - 1) / t.2.1) (by omega) (by omega);have amb:=bC (n:=(max 0 (m - t.1)+t.2.1 - 1) / t.2.1*t.2.2.1) (by omega) (by omega);have Ei:Int.tdiv (max 0 (m - t.1)+t.2.1 - 1) t.2.1=(max 0 (m - t.1)+t.2.1 - 1) / t.2.1:=Int.tdiv_eq_ediv_of_nonneg (by omega);unfold WC;show _=A.pure (lz t m);unfold lz;simp only[Prod.db,cn,XJ,ch,c_,eY,Ei,AP,Int.mul_comm t.2.2.1,amb,XK,decide_eq_true_eq];rw[A.bo (show t.2.1≠0 from by omega)];grind
def gZ(c:aZ)(w:z1')(u:Int):List bA:=if eE (b5 c w u)=true then b5 c w u else []
def ng(l:List bA)(minute:Int):Int×Int:=l.foldl (λb e=>if e.2<=minute then (if eo e.1=2 then (-1,e.2) else (iQ e.1,e.2)) else b) (-1,0)
def Ib(c:aZ)(w:z1')(minute:Int):Int:=((ev 0 9).foldl (λn u=>if (ng (gZ c w u) minute).1>=0 then n+1 else n) (0:Int))
def ui(l:List bA):List (bA×bA):=l.zip (l.drop 1)
def Ej(cl:z4')(jg:Int)(l:List bA):Option Int:=((ui l).find? λp=>lx p.1.1 == jg&&eo p.1.1 == 1).map λp=>l3 cl p.1.2 p.2.2
def jV(c:aZ)(w:z1')(jg:Int):Option Int:=(ev 0 9).findSome? λu=>Ej c.2.2.2.1 jg (gZ c w u)
theorem amc{l:List bA}{i:Nat}(h:i+1<(fu hY l).length):(fu hY l)[i].2<=(fu hY l)[i+1].2:=by
 have:=List.pairwise_iff_getElem.1 (alB l) i (i+1) (by omega) h (by omega);omega
theorem Ek{c:aZ}(aB:gY c){w:z1'}(U:pI c w){u:Int}{e:bA}(he:e∈b5 c w u):-30<=e.2/\e.2<=10029:=by
 obtain⟨E,_,ah⟩:=Eh he;have aO:=(U.at aB E).2.2;have aR:=(AM.1 (aB.AN E)).2.2.1;omega
theorem AQ{c:aZ}{w:z1'}{u:Int}{e:bA}(he:e∈gZ c w u):e∈b5 c w u:=by
 unfold gZ at he;grind
theorem amd{c:aZ}{w:z1'}{u:Int}{i:Nat}(h:i+1<(gZ c w u).length):(gZ c w u)[i].2<=(gZ c w u)[i+1].2:=by
 have key:∀ l,gZ c w u=l->∀ (h:i+1<l.length),l[i].2<=l[i+1].2:=by
  intro l aj h;unfold gZ at aj;split at aj
  ·subst aj;exact amc h
  grind
 grind
theorem XM{c:aZ}(aB:gY c){w:z1'}(U:pI c w){u:Int}{i:Nat}(h:i+1<(gZ c w u).length):AO (c,(gZ c w u)[i].2,(gZ c w u)[i+1].2):=by
 have ah:=Ek aB U (AQ (List.getElem_mem (by omega:i<(gZ c w u).length)));have a1:=Ek aB U (AQ (List.getElem_mem h));exact⟨aB.OI,show -100<=(gZ c w u)[i].2 by omega,amd h,show (gZ c w u)[i+1].2<=11000 by omega⟩
theorem ame{l:List bA}{i:Nat}(h:i<(ui l).length):∃ U:i+1<l.length,(ui l)[i]=(l[i],l[i+1]):=by
 unfold ui at h ⊢;grind
theorem amf{a b:Int}{s:Int×Int}(h:b<=s.1):kg a b s=0:=by unfold kg;omega
def rv:z4'->Prop
 | []=>True
 | s::r=>s.1<=s.2/\(∀ t∈r,s.2<t.1)/\rv r
theorem OJ:∀ (cl:z4') (a b n:Int),cl.foldl (λn s=>n - kg a b s) n=n - (cl.map (kg a b)).sum
 | [],a,b,n=>by simp
 | s::r,a,b,n=>by simp only[List.foldl_cons,List.map_cons,List.sum_cons];rw[OJ r];omega
theorem XN:∀ (cl:z4') (a b:Int),rv cl->a<=b->(cl.map (kg a b)).sum<=b - a
 | [],a,b,_,h=>by grind
 | s::r,a,b,⟨E,U,ah⟩,h=>by
  simp only[List.map_cons,List.sum_cons];by_cases W:s.2+1<=b
  ·have aJ:=XN r (max a (s.2+1)) b ah (by omega);have e:r.map (kg a b)=r.map (kg (max a (s.2+1)) b):=by
    refine List.map_congr_left λt aH=>?_;have:=U t aH;unfold kg;omega
   rw[e];have:kg a b s<=max a (s.2+1) - a:=by unfold kg;omega
   omega
  ·have e:∀ l:z4',(∀ t∈l,b<=t.1)->(l.map (kg a b)).sum=0:=by
    intro l;induction l with
    | nil=>simp
    | cons t l aJ=>
     intro aj;simp only[List.map_cons,List.sum_cons];rw[amf (aj t (by simp)),aJ λx ag=>aj x (by grind)];rfl
   rw[e r λt aH=>by grind];unfold kg;omega
theorem XO:∀ (cl:z4'),(∀ i,(h:i+1<cl.length)->cl[i].2<cl[i+1].1)->(∀ s∈cl,s.1<=s.2)->rv cl
 | [],_,_=>trivial
 | s::r,h,U=>by
  have M:rv r:=XO r (λi G=>by have:=h (i+1) (by grind);grind) λt aH=>U t (by grind);refine⟨U s (by simp),?_,M⟩;cases r with
  | nil=>simp
  | cons t r=>
   have aX:=h 0 (by simp);simp at aX;intro u hu;rcases List.mem_cons.1 hu with rfl | hu
   ·exact aX
   ·have:=M.2.1 u hu;grind
theorem gY.amg{c:aZ}(h:gY c):rv c.2.2.2.1:=by
 have hc:=h.iA;unfold AF at hc;rw[List.all_eq_true]at hc;refine XO _ (λi G=>?_) λs aD=>(h.OI.2 s aD).2.1;have:=hc (i+1) (by grind);unfold iR at this;grind
theorem amh{cl:z4'}{a b:Int}(h:rv cl)(vM:a<=b):0<=l3 cl a b:=by
 unfold l3;rw[OJ];have:=XN cl a b h vM;omega
theorem XP:∀ (cl:z4') (a b:Int),0<=(cl.map (kg a b)).sum
 | [],_,_=>by simp
 | s::r,a,b=>by
  simp only[List.map_cons,List.sum_cons];have:=XP r a b;have:0<=kg a b s:=by unfold kg;omega
  omega
theorem ami{cl:z4'}{a b:Int}:l3 cl a b<=b - a:=by
 unfold l3;rw[OJ];have:=XP cl a b;omega
theorem amj{cl:z4'}{jg:Int}{l:List bA}{m:Int}(h:Ej cl jg l=some m):∃ i,∃ G:i+1<l.length,l[i].1.1=jg/\eo l[i].1=1/\m=l3 cl l[i].2 l[i+1].2:=by
 unfold Ej at h;rw[Option.map_eq_some_iff]at h;obtain⟨p,an,rfl⟩:=h;have U:=List.find?_some an;obtain⟨i,G,rfl⟩:=List.mem_iff_getElem.1 (List.mem_of_find?_eq_some an);obtain⟨dv,e⟩:=ame G;grind
theorem XQ{c:aZ}(aB:gY c){w:z1'}(U:pI c w){jg m:Int}(h:jV c w jg=some m):0<=m/\m<=11000:=by
 unfold jV at h;obtain⟨u,_,hu⟩:=List.exists_of_findSome?_eq_some h;obtain⟨i,G,_,_,rfl⟩:=amj hu;have an:=XM aB U G;have hm:=amh aB.amg an.2.2.1;have ah:=Ek aB U (AQ (List.getElem_mem (by omega:i<(gZ c w u).length)));have a1:=Ek aB U (AQ (List.getElem_mem G));have bK:=@ami c.2.2.2.1 (gZ c w u)[i].2 (gZ c w u)[i+1].2;grind
def Ic(c:aZ)(w:z1')(amk:Int):Int:=(fv c).foldl (λn s=>if (eo s=1/\iQ s=amk)/\(jV c w (lx s)).isSome=true then n+lz c.2.2.2.2 ((jV c w (lx s)).getD 0) else n) 0
def AR(c:aZ)(jg:Int):Bool:=(fv c).any λs=>lx s == jg&&eo s == 1
def sP(c:aZ)(w:z1'):Bool:=(List.range w.length).all λi=>bZ (w.getD i 0) (c.1.getD i (0,0)).1 (c.1.getD i (0,0)).2
def iS(c:aZ)(w:z1'):Bool:=decide (w.length=c.1.length)&&sP c w&&(ev 0 9).all λu=>eE (b5 c w u)
theorem XR{c:aZ}(aB:gY c){w:z1'}(aj:w.length=c.1.length)(h:sP c w=true):pI c w:=by
 refine⟨aj,λn aw=>?_⟩;obtain⟨i,G,rfl⟩:=List.mem_iff_getElem.1 aw;unfold sP at h;rw[List.all_eq_true]at h;have E:=h i (by grind);rw[sN G,sN (by omega:i<c.1.length),oT]at E;have:=aB.clk _ (List.getElem_mem (by omega:i<c.1.length));omega
def kh:z4'->Nat
 | []=>1
 | s::r=>(s.2 - s.1+1).toNat*kh r
def nh(c:aZ):z4'->z1'->List (z1')
 | [],w=>if iS c w=true then [w] else []
 | s::r,w=>(ev s.1 s.2).flatMap λn=>nh c r (w++[n])
theorem OK{ak β:Type}(f:ak->List β)(k:Nat):∀ (l:List ak),(∀ x∈l,(f x).length<=k)->(l.flatMap f).length<=l.length*k
 | [],_=>by simp
 | x::l,h=>by
  simp only[List.flatMap_cons,List.length_append,List.length_cons];have:=OK f k l λy aS=>h y (by grind);grind
theorem OL(c:aZ):∀ (r:z4') (w:z1'),(nh c r w).length<=kh r
 | [],w=>by unfold nh kh;grind
 | s::r,w=>by
  unfold nh kh;have:=OK (λn=>nh c r (w++[n])) (kh r) (ev s.1 s.2) λn _=>OL c r _;rw[xZ]at this;omega
theorem XS{ak β:Type}(f:ak->List β):∀ (l:List ak) (b:List β),l.foldl (λb x=>b++f x) b=b++l.flatMap f
 | [],b=>by simp
 | x::l,b=>by simp only[List.foldl_cons,List.flatMap_cons];rw[XS f l,List.append_assoc]
abbrev cP(c:aZ):List (z1'):=nh c c.1 []
def aml(c:aZ):Prop:=cM c=0->kh c.1<=60
def gE(c:aZ):Prop:=HY c/\aml c
theorem gE.fU{c:aZ}(h:gE c):iy c:=by
 obtain⟨⟨E,U,ah,a1⟩,_⟩:=h;exact⟨by omega,by omega,by omega,by omega⟩
def eK(c:aZ)(b:Bool):List (z1')×Int:=if cM c≠0 then ([],cM c) else if b=false then ([],1) else if cP c=[] then ([],3) else (cP c,0)
theorem OM(c:aZ):∀ (r:z4') (w x:z1'),x∈nh c r w->iS c x=true
 | [],w,x,h=>by
  unfold nh at h;grind
 | s::r,w,x,h=>by
  unfold nh at h;rw[List.mem_flatMap]at h;obtain⟨n,_,aw⟩:=h;exact OM c r _ x aw
theorem El{c:aZ}(h:cM c=0){w:z1'}(hw:iS c w=true):pI c w:=by
 unfold iS at hw;simp only[Bool.and_eq_true,decide_eq_true_eq]at hw;exact XR (oX h) hw.1.1 hw.1.2
theorem Ie{c:aZ}{w:z1'}(hw:iS c w=true){u:Int}(hu:0<=u/\u<=9):eE (b5 c w u)=true:=by
 unfold iS at hw;simp only[Bool.and_eq_true,List.all_eq_true]at hw;exact hw.2 u (sC.2 hu)
theorem amm{c:aZ}{b:Bool}{w:z1'}(h:w∈(eK c b).1):cM c=0/\w∈cP c/\iS c w=true/\pI c w:=by
 unfold eK at h;split at h
 ·grind
 ·rename_i hc;have hc:cM c=0:=by omega
  split at h
  ·grind
  ·split at h
   ·grind
   ·have:=OM c _ _ _ h;exact⟨hc,h,this,El hc this⟩
def If:Option (Int×Int)->Int->Int×Int
 | none,n=>(n,n)
 | some s,n=>(min s.1 n,max s.2 n)
def yb(l:z1'):Option (Int×Int):=l.foldl (λo n=>some (If o n)) none
def uj(l:z1'):Int×Int:=(yb l).getD (0,0)
theorem amn(a b c:Int):cr.sh (a,b,c)=A.pure (bZ a b c):=rfl
def lA(c:aZ)(jg:Int):z1'×Int:=if (eK c (AR c jg)).2≠0 then ([],(eK c (AR c jg)).2) else if (eK c (AR c jg)).1.filterMap (λw=>jV c w jg)=[] then ([],3) else ((eK c (AR c jg)).1.filterMap (λw=>jV c w jg),0)
def Ig(c:aZ)(n:Int):(Int×Int)×Int:=(uj (lA c n).1,(lA c n).2)
abbrev Ih:aL:=⟨.az iP bx,.az mx bx,λx=>gE x.1,λx=>Ig x.1 x.2⟩
def AS(c:aZ)(n:Int):(Int×Int)×Int:=(uj ((lA c n).1.map λm=>lz c.2.2.2.2 m),(lA c n).2)
abbrev AT:aL:=⟨.az iP bx,.az mx bx,λx=>gE x.1,λx=>AS x.1 x.2⟩
def Ii(c:aZ)(g:Int):(Int×Int)×Int:=(uj ((eK c (bZ g 0 99)).1.map λw=>Ic c w g),(eK c (bZ g 0 99)).2)
abbrev Ij:aL:=⟨.az iP bx,.az mx bx,λx=>gE x.1,λx=>Ii x.1 x.2⟩
def Ik(c:aZ)(t:Int):(Int×Int)×Int:=(uj ((eK c (bZ t 0 9999)).1.map λw=>Ib c w t*c.2.2.2.2.2.2.2.2.2.2),(eK c (bZ t 0 9999)).2)
abbrev Il:aL:=⟨.az iP bx,.az mx bx,λx=>gE x.1,λx=>Ik x.1 x.2⟩
def vQ(u t:Int):Bool:=bZ u 0 9&&bZ t 0 9999
def ON(c:aZ)(u t:Int):z1':=(eK c (vQ u t)).1.map λw=>(ng (gZ c w u) t).1
def ry(c:aZ)(u t:Int):z1'×Int:=((ev (-1) 99).filter λg=>(ON c u t).contains g,(eK c (vQ u t)).2)
abbrev Im:aL:=⟨.az iP (.az bx bx),.az fP bx,λx=>gE x.1,λx=>ry x.1 x.2.1 x.2.2⟩
def Em(c:aZ)(w:z1')(u t:Int):Bool:=decide ((ng (gZ c w u) t).1>=0)&&decide (l3 c.2.2.2.1 (ng (gZ c w u) t).2 t>=c.2.2.2.2.2.2.2.2.1)
def oY(c:aZ)(l:List (z1'))(u t:Int):Nat:=(l.filter λw=>Em c w u t).length
def sQ(c:aZ)(t:Int):z1'×z1'×Int:=
 if (eK c (bZ t 0 9999)).2≠0 then ([],[],(eK c (bZ t 0 9999)).2)
 else ((ev 0 9).filter (λu=>decide (oY c (eK c (bZ t 0 9999)).1 u t=(eK c (bZ t 0 9999)).1.length)),(ev 0 9).filter (λu=>decide (oY c (eK c (bZ t 0 9999)).1 u t > 0)),0)
abbrev Io:aL:=⟨.az iP bx,.az fP (.az fP bx),λx=>gE x.1,λx=>sQ x.1 x.2⟩
theorem OO:∀ (l:List bA) (t:Int) (b:Int×Int),(∀ e∈l,(0<=iQ e.1))->(l.foldl (λb e=>if e.2<=t then (if eo e.1=2 then (-1,e.2) else (iQ e.1,e.2)) else b) b=b\/∃ e∈l,e.2<=t/\l.foldl (λb e=>if e.2<=t then (if eo e.1=2 then (-1,e.2) else (iQ e.1,e.2)) else b) b=(if eo e.1=2 then (-1,e.2) else (iQ e.1,e.2)))
 | [],t,b,_=>.inl rfl
 | x::l,t,b,h=>by
  simp only[List.foldl_cons];by_cases ag:x.2<=t
  ·rw[if_pos ag];rcases OO l t (if eo x.1=2 then (-1,x.2) else (iQ x.1,x.2)) λe he=>h e (by grind) with E | ⟨e,he,E,U⟩
   ·exact .inr ⟨x,by simp,ag,E⟩
   ·exact .inr ⟨e,by simp[he],E,U⟩
  ·rw[if_neg ag];rcases OO l t b λe he=>h e (by grind) with E | ⟨e,he,E,U⟩
   ·exact .inl E
   ·exact .inr ⟨e,by simp[he],E,U⟩
theorem amo{c:aZ}(aB:gY c){w:z1'}(U:pI c w){u t:Int}(aH:t<=9999)(h:(ng (gZ c w u) t).1>=0):AO (c,(ng (gZ c w u) t).2,t):=by
 rcases OO (gZ c w u) t (-1,0) (λe he=>((AM.1 (aB.AN (Eh (AQ he)).1)).2.2.2.2.1).1) with E | ⟨e,he,E,ah⟩
 ·unfold ng at h;grind
 ·have:=Ek aB U (AQ he);have aM:(ng (gZ c w u) t).2=e.2:=by
   unfold ng;grind
  exact⟨aB.OI,by grind,by grind,show t<=11000 by omega⟩
abbrev kD(z:ho):aZ:=(z.1,z.2.1,z.2.2.1,z.2.2.2.1,z.2.2.2.2.1,z.db,z.ft,z.gM,z.ir,z.jS,z.kX)
abbrev OP(z:ho):List a_:=z.hN
abbrev XT(z:ho):List (Option dQ):=z.nd
abbrev En(c:aZ)(l:List a_)(t:List (Option dQ)):ho:=(c.1,c.2.1,c.2.2.1,c.2.2.2.1,c.2.2.2.2.1,c.2.2.2.2.2.1,c.2.2.2.2.2.2.1,c.2.2.2.2.2.2.2.1,c.2.2.2.2.2.2.2.2.1,c.2.2.2.2.2.2.2.2.2.1,c.2.2.2.2.2.2.2.2.2.2,l,t,())
def uk(l:List a_)(w:z1')(u:Int):List bA:=(l.filter λs=>decide (ud s=u)).map λs=>(s,x7 s+w.getD (pE s).toNat 0)
theorem amp{l:List a_}{w:z1'}{i:Nat}(h:i<l.length)(u:Int):uk (l.take (i+1)) w u=if l[i].2.2.2.2.1=u then uk (l.take i) w u++[(l[i],x7 l[i]+w.getD (pE l[i]).toNat 0)] else uk (l.take i) w u:=by
 unfold uk;rw[List.take_add_one,List.getElem?_eq_getElem h,Option.toList_some,List.filter_append,List.map_append];grind
theorem XU(l:List a_)(w:z1')(u:Int):(uk l w u).length<=l.length:=by
 unfold uk;grind
abbrev ni(c:aZ)(w:z1'):List (List bA):=[b5 c w 0,b5 c w 1,b5 c w 2,b5 c w 3,b5 c w 4,b5 c w 5,b5 c w 6,b5 c w 7,b5 c w 8,b5 c w 9]
def sR(c:aZ)(w:z1'):Bool:=(ev 0 9).all λu=>eE (b5 c w u)
theorem amq(c:aZ)(w:z1'):sR c w=(eE (b5 c w 0)&&(eE (b5 c w 1)&&(eE (b5 c w 2)&&(eE (b5 c w 3)&&(eE (b5 c w 4)&&(eE (b5 c w 5)&&(eE (b5 c w 6)&&(eE (b5 c w 7)&&(eE (b5 c w 8)&&eE (b5 c w 9)))))))))):=by
 unfold sR;rw[show ev 0 9=[0,1,2,3,4,5,6,7,8,9] from by decide];simp
abbrev amr(x:z1'×ho):Prop:=cM (kD x.2)=0/\pI (kD x.2) x.1/\OP x.2=fv (kD x.2)
def um(x:z1'×ho):A (Option dQ×Bool×ho):=A.dR (amr x) (if sR (kD x.2) x.1=true then (some (x.1,ni (kD x.2) x.1),true,x.2) else (none,false,x.2))
theorem ams{bm aI:Type}{body:Int×Int×Int×bm->A (V (Int×Int×Int×bm) aI)}(l:List bA){a n:Int}{z:bm}(bad qy:aI)
  (W:∀ i,i<l.length->body (a,n,(i:Int),z)=A.pure (if (!qx l i)=true then .done bad else .next (a,n,((i+1:Nat):Int),z)))
  (he:body (a,n,(l.length:Int),z)=A.pure (.done qy)):A.loop body (a,n,0,z)=A.pure (if eE l=true then qy else bad):=by
 rw[A.dB (List.range l.length) (λi (_:Unit)=>(a,n,(i:Int),z)) (λi b=>if (!qx l i)=true then .done bad else .next b) (λ_=>qy) () ?_ ?_ ?_]
 ·rw[kU (q:=qx l) _ _ (λ_=>rfl)];rfl
 ·rfl
 ·intro i G b;have G:i<l.length:=by grind
  rw[W i G,List.getElem_range];cases qx l i<;>rfl
 grind
theorem XV{X:Type}{l:List bA}(aj:l.length<=12){i:Nat}(G:i<l.length){k:Int}(al:k=1+((i % 2:Nat):Int))(aK B:A X):Oq l l[i] i k aK B=if (!qx l i)=true then aK else B:=by
 unfold Oq;have zy:=al5 l i;rw[Bool.or_comm,sN G]at zy;have ax:(decide (l[i].1.2.2.2.1≠k)||decide ((i:Int) > 0)&&decide (l[i].2=(List.getD l (Int.toNat (IntKind.wrap .i64 ((i:Int) - 1))) ((0,0,0,0,0,0),0)).2))=!qx l i:=by
  rw[<-zy,al];rcases Nat.eq_zero_or_pos i with aX | aX
  ·simp_all
  ·rw[bC (n:=(i:Int) - 1) (by omega) (by omega),show ((i:Int) - 1).toNat=i - 1 from by omega]
 rw[ax];have bK:decide ((i:Int) > 0)=true->(0<=IntKind.wrap .i64 ((i:Int) - 1)/\IntKind.wrap .i64 ((i:Int) - 1)<Int.ofNat (List.length l)):=λh=>by
  have h:=of_decide_eq_true h;rw[bC (n:=(i:Int) - 1) (by omega) (by omega),bV];omega
 simp_all
theorem amt{l:List bA}(h:l.length<=12):AB (l2.sh,l,())=A.pure (fu hY l,()):=A.bR ⟨h,rfl⟩ _
theorem amu{l:List a_}{w:z1'}{c:aZ}(aj:l.length<=12)(aD:∀ s∈l,ly c.1.length s=true)(hw:pI c w){i:Nat}(G:i<l.length):0<=l[i].2.2.2.2.1/\l[i].2.2.2.2.1<=9/\(0<=l[i].2.1/\l[i].2.1<(w.length:Int))/\IntKind.wrap .i64 (l[i].2.2.1+w.getD l[i].2.1.toNat 0)=l[i].2.2.1+w.getD l[i].2.1.toNat 0:=by
 have h:=AM.1 (aD _ (List.getElem_mem G));have E:pE l[i]<(w.length:Int):=by rw[hw.1];omega
 have U:=hw.2 _ (xY (d:=0) h.2.1.1 E);have ah:=h.2.2.1;have a1:=h.2.2.2.1;exact⟨a1.1,a1.2,⟨h.2.1.1,E⟩,bC (by grind) (by grind)⟩
abbrev n9(f:Nat->List bA)(c:ho):lv:=(f 0,f 1,f 2,f 3,f 4,f 5,f 6,f 7,f 8,f 9,c)
theorem OQ{f g:Nat->List bA}(h:∀ u,u<10->f u=g u)(c:ho):n9 f c=n9 g c:=by
 simp only[n9,h 0 (by decide),h 1 (by decide),h 2 (by decide),h 3 (by decide),h 4 (by decide),h 5 (by decide),h 6 (by decide),h 7 (by decide),h 8 (by decide),h 9 (by decide)]
theorem OR(f:Nat->List bA)(c:ho):∀ k,k<10->mw k (n9 f c)=f k
 | 0,_ | 1,_ | 2,_ | 3,_ | 4,_ | 5,_ | 6,_ | 7,_ | 8,_ | 9,_=>rfl
 | k+10,h=>by omega
theorem XW(f:Nat->List bA)(c:ho)(v:List bA):∀ k,k<10->HT k v (n9 f c)=n9 (λj=>if j=k then v else f j) c
 | 0,_ | 1,_ | 2,_ | 3,_ | 4,_ | 5,_ | 6,_ | 7,_ | 8,_ | 9,_=>rfl
 | k+10,h=>by omega
theorem XX{X:Type}(f:Nat->A X){v:Int}{u:Nat}(h:v=(u:Int)):∀ {n:Nat},u<=n->HV f v n=f u
 | 0,hu=>by
  obtain rfl:u=0:=by omega
  rfl
 | n+1,hu=>by
  unfold HV;simp only[gW,bV,h];by_cases e:u=n+1
  ·rw[if_pos (by omega),e]
  ·rw[if_neg (by omega)];exact XX f rfl (by omega)
theorem amv{c:aZ}{w:z1'}(j':∀ u,(b5 c w u).length<=12){z:ho}{g:Nat->List bA}{k:Nat}(al:k<10)(aB:g k=b5 c w k) :
  A.loop (HU k) (Int.ofNat k,Int.ofNat (List.length (b5 c w k)),0,w,n9 g z)=A.pure (if eE (b5 c w k)=true then .next (Int.ofNat k,w,n9 g z) else .done (.done (none,false,z))):=by
 have ax:mw k (n9 g z)=b5 c w k:=(OR g z k al).trans aB;refine ams (b5 c w k) _ _ (λi G=>?_) ?_
 ·have hw:=bC (n:=(i:Int)+1) (by omega) (by have:=j' k;omega);unfold HU;simp only[bV,cT G,if_true,ax,cG G,df G,A.br];rcases Nat.mod_two_eq_zero_or_one i with hm | hm
  ·have ar:decide (Int.tmod (i:Int) 2=1)=false:=by rw[XH,hm];rfl
   simp only[ar,Bool.false_eq_true,if_false,A.Fq,A.aF,A.bX];rw[A.bo (by decide),ax];refine (XV (j' k) G (by rw[hm];rfl) _ _).trans ?_;simp only[ch,hw];cases qx (b5 c w k) i<;>rfl
  ·have ar:decide (Int.tmod (i:Int) 2=1)=true:=by rw[XH,hm];rfl
   simp only[ar,if_true,A.Fq,A.aF,A.bX];rw[A.bo (by decide),ax];refine (XV (j' k) G (by rw[hm];rfl) _ _).trans ?_;simp only[ch,hw];cases qx (b5 c w k) i<;>rfl
 ·unfold HU;simp
theorem XY{c:aZ}{w:z1'}(hlen:∀ u,(oW c w u).length<=12)(j':∀ u,(b5 c w u).length<=12){z:ho}:∀ n k,k+n=10->
  D9 AB l2.sh n k (w,n9 (λu=>if u<k then b5 c w u else oW c w u) z)=A.pure (if ((List.range' k n).all λu=>eE (b5 c w u))=true then .next (w,n9 (λu=>b5 c w u) z) else .done (none,false,z))
 | 0,k,h=>by
  unfold D9;rw[OQ (g:=λu=>b5 c w u) λu hu=>if_pos (by omega)];rfl
 | n+1,k,h=>by
  have al:k<10:=by omega
  have aD:AB (l2.sh,oW c w k,())=A.pure (b5 c w k,()):=amt (hlen k);have hw:=bC (n:=(k:Int)+1) (by omega) (by omega);have aM:HT k (b5 c w k) (n9 (λu=>if u<k then b5 c w u else oW c w u) z)=n9 (λu=>if u<k+1 then b5 c w u else oW c w u) z:=by
   rw[XW _ _ _ _ al];exact OQ (λu hu=>by
    by_cases e:u=k
    ·subst e;simp
    ·by_cases aM:u<k
     ·simp[e,aM,show u<k+1 by omega]
     ·simp[e,aM,show ¬u<k+1 by omega]) _
  unfold D9;dsimp only;rw[A.bo (by simp only[bV];omega),OR _ _ _ al,if_neg (Nat.lt_irrefl k),aD,A.aF];simp only[aM];rw[amv j' al (if_pos (Nat.lt_succ_self k)),A.aF,List.range'_succ,List.all_cons];cases eE (b5 c w k) with
  | false=>rfl
  | true=>
   simp only[if_true,Bool.true_and,A.bX];rw[A.bo (by simp only[bV,ch,hw];omega)];exact XY hlen j' n (k+1) (by omega)
theorem OS(x):A.le (Xd oV.sh AB l2.sh x) (um x):=A.bu λh=>by
 obtain⟨w,z⟩:=x;obtain⟨E,U,ah⟩:=h;change cM (kD z)=0 at E;change pI (kD z) w at U;change z.hN=fv (kD z) at ah;show _=A.pure (if sR (kD z) w=true then (some (w,ni (kD z) w),true,z) else (none,false,z));generalize tT:kD z=c at *
 have aB:=oX E;have aj:=aB.OH;have pa:∀ s∈fv c,ly c.1.length s=true:=λs aD=>aB.AN aD;have aw:=aB.ec;have hlen:∀ u,(oW c w u).length<=12:=λu=>Nat.le_trans (XU (fv c) w u) aj;have j':∀ u,(b5 c w u).length<=12:=λu=>Eg aB w u;have pJ:∀ u,uk z.hN w u=oW c w u:=λu=>by rw[ah];rfl
 rw[<-ah]at aj pa;clear ah;unfold Xd;rw[show oV.sh w=A.pure w from A.bR (show w.length<=3000000 by have:=U.1;omega) _];simp only[A.aF,A.bX,A.br];refine (congrArg (λm=>A.bind m _) (A.dB z.hN (λi (_:Unit)=>(w,z.hN,(z.hN.length:Int),(i:Int),w,n9 (λu=>uk (z.hN.take i) w u) z)) (λ_ b=>.next b) (λ_=>.next (w,n9 (λu=>oW c w u) z)) () ?_ ?_ ?_)).trans ?_
 ·simp only[bV,List.take_zero];rfl
 ·intro i G b;obtain⟨aO,aR,bO,fI⟩:=amu (c:=c) aj pa U G;have hw:=bC (n:=(i:Int)+1) (by omega) (by omega);have iF:∀ u,bM (Add.add (uk (z.hN.take i) w u).length (Add.add 0 1)):=λu=>e7 (by have:=XU (z.hN.take i) w u;rw[List.length_take]at this;simp only[gW];omega);obtain⟨u,hu⟩:∃ u:Nat,z.hN[i].2.2.2.2.1=(u:Int):=⟨z.hN[i].2.2.2.2.1.toNat,by omega⟩
  have amw:u<=9:=by omega
  simp only[bV,cT G,if_true,df G,cG G,A.br];rw[A.bo (show (0<=z.hN[i].2.2.2.2.1/\z.hN[i].2.2.2.2.1<((10:Nat):Int)) from⟨aO,by omega⟩),XX _ hu amw];unfold Xc;simp only[df G,bV,OR _ _ u (show u<10 by omega),XW _ _ _ u (show u<10 by omega)];rw[A.bo trivial,A.bo (by omega),A.bo bO,A.bo (iF _),A.bo trivial,A.bo (by omega),A.aF,A.bX];simp only[ch,hw,fI];refine congrArg (λq=>A.pure (V.next (w,z.hN,(z.hN.length:Int),((i:Int)+1),w,q))) ?_;refine OQ (λj aE=>?_) _;rw[amp G,hu];by_cases e:j=u
  ·subst e;rw[if_pos rfl,if_pos rfl,<-hu]
  ·rw[if_neg e,if_neg (by omega)]
 ·intro b;simp only[List.take_length,pJ];simp
 ·rw[dP,A.aF,A.bX];have bG:=XY (c:=c) (w:=w) hlen j' (z:=z) 10 0 rfl;rw[A.bo (by decide)];rw[show (λu:Nat=>if u<0 then b5 c w u else oW c w u)=λu:Nat=>oW c w u from funext λu=>if_neg (Nat.not_lt_zero u)]at bG;rw[bG,A.aF];have ax:((List.range' 0 10).all λu=>eE (b5 c w u))=sR c w:=by
   rw[amq];simp[List.range']
  rw[ax];cases sR c w<;>rfl
abbrev iu(c:aZ)(w:z1'):Option dQ:=some (w,ni c w)
abbrev amx(f:Nat)(x:z1'×ho):Prop:=cM (kD x.2)=0/\OP x.2=fv (kD x.2)/\x.1.length<=(kD x.2).1.length/\(kD x.2).1.length<x.1.length+f/\sP (kD x.2) x.1=true/\(XT x.2).length+kh ((kD x.2).1.drop x.1.length)<=60
def yc(f:Nat)(x:z1'×ho):A ho:=A.dR (amx f x) (En (kD x.2) (OP x.2) (XT x.2++(nh (kD x.2) ((kD x.2).1.drop x.1.length) x.1).map (iu (kD x.2))))
theorem amy(x):¬(yc 0 x).ck:=λh=>by have E:=h.2.2.1;have U:=h.2.2.2.1;omega
theorem amz{c:aZ}{w:z1'}{n:Int}:sP c (w++[n])=(sP c w&&bZ n (c.1.getD w.length (0,0)).1 (c.1.getD w.length (0,0)).2):=by
 unfold sP;grind
theorem amA{c:aZ}{w:z1'}(aj:w.length=c.1.length)(h:sP c w=true):iS c w=sR c w:=by
 unfold iS sR;grind
set_option maxHeartbeats 1000000 in
theorem amB(f:Nat)(x):A.le (Xf (yc f) um x) (yc (f+1) x):=A.bu λh=>by
 obtain⟨w,a0,b8,a2,a3,a4,a5,gv,gw,h0,a9,hA,l,t,u⟩:=x;obtain⟨E,U,ah,a1,bK,dp⟩:=h;change cM (a0,b8,a2,a3,a4,a5,gv,gw,h0,a9,hA)=0 at E;change l=fv (a0,b8,a2,a3,a4,a5,gv,gw,h0,a9,hA) at U;change w.length<=a0.length at ah;change a0.length<w.length+(f+1) at a1;change sP (a0,b8,a2,a3,a4,a5,gv,gw,h0,a9,hA) w=true at bK;change t.length+kh (a0.drop w.length)<=60 at dp;show _=A.pure (En (a0,b8,a2,a3,a4,a5,gv,gw,h0,a9,hA) l (t++(nh (a0,b8,a2,a3,a4,a5,gv,gw,h0,a9,hA) (a0.drop w.length) w).map (iu (a0,b8,a2,a3,a4,a5,gv,gw,h0,a9,hA))));have aB:=oX E;have aw:a0.length<=3:=aB.ec;unfold Xf;simp only[Prod.db,Prod.ft,Prod.gM,Prod.ir,Prod.jS,Prod.kX,Prod.hN,Prod.nd,Prod.pD,Prod.sE,Prod.x4,Prod.Oa,Prod.D0,Prod.D1,Prod.D2,bV,A.br];by_cases aj:w.length=a0.length
 ·rw[if_pos (by simp only[decide_eq_true_eq];omega)];have amC:pI (a0,b8,a2,a3,a4,a5,gv,gw,h0,a9,hA) w:=XR aB aj bK;have af:um (w,a0,b8,a2,a3,a4,a5,gv,gw,h0,a9,hA,l,t,())=A.pure (if sR (a0,b8,a2,a3,a4,a5,gv,gw,h0,a9,hA) w=true then (iu (a0,b8,a2,a3,a4,a5,gv,gw,h0,a9,hA) w,true,a0,b8,a2,a3,a4,a5,gv,gw,h0,a9,hA,l,t,()) else (none,false,a0,b8,a2,a3,a4,a5,gv,gw,h0,a9,hA,l,t,())):=A.bR ⟨E,amC,U⟩ _;rw[af,A.aF,aj,List.drop_length];unfold nh;rw[amA aj bK];cases al:sR (a0,b8,a2,a3,a4,a5,gv,gw,h0,a9,hA) w with
  | true=>
   rw[if_pos rfl,if_pos rfl,A.bo (e7 (by simp only[gW];omega)),A.aF,A.bX];rfl
  | false=>
   simp only[Bool.false_eq_true,if_false,A.aF,A.bX,List.map_nil,List.append_nil]
 ·have cc:w.length<a0.length:=by omega
  rw[if_neg (by simp only[decide_eq_true_eq];omega),A.bo (show (0:Int)<=(w.length:Int)/\(w.length:Int)<(a0.length:Int) by omega)];rw[List.drop_eq_getElem_cons cc]at dp ⊢;simp only[Int.toNat_natCast,sN cc];have aD:=aB.clk _ (List.getElem_mem cc);change -30<=a0[w.length].1/\a0[w.length].1<=a0[w.length].2/\a0[w.length].2<=30 at aD;have nj:a0.getD w.length (0,0)=a0[w.length]:=sN cc;generalize a0[w.length]=s at *
  unfold kh at dp;have Eo:∀ n (ts:List (Option dQ)),s.1<=n->n<=s.2->ts.length+kh (a0.drop (w.length+1))<=60->yc f (w++[n],a0,b8,a2,a3,a4,a5,gv,gw,h0,a9,hA,l,ts,())=A.pure (En (a0,b8,a2,a3,a4,a5,gv,gw,h0,a9,hA) l (ts++(nh (a0,b8,a2,a3,a4,a5,gv,gw,h0,a9,hA) (a0.drop (w.length+1)) (w++[n])).map (iu (a0,b8,a2,a3,a4,a5,gv,gw,h0,a9,hA)))):=by
   intro n ts aO aR bO;refine (A.bR ⟨E,U,?_,?_,?_,?_⟩ _).trans (congrArg A.pure ?_)
   ·show En (a0,b8,a2,a3,a4,a5,gv,gw,h0,a9,hA) l (ts++(nh (a0,b8,a2,a3,a4,a5,gv,gw,h0,a9,hA) (a0.drop (w++[n]).length) (w++[n])).map (iu (a0,b8,a2,a3,a4,a5,gv,gw,h0,a9,hA)))=_;rw[List.length_append,List.length_singleton]
   ·show (w++[n]).length<=a0.length;simp;omega
   ·show a0.length<(w++[n]).length+f;simp;omega
   ·show sP (a0,b8,a2,a3,a4,a5,gv,gw,h0,a9,hA) (w++[n])=true;rw[amz,bK];show (true&&bZ n (a0.getD w.length (0,0)).1 (a0.getD w.length (0,0)).2)=true;rw[nj,Bool.true_and];exact oT.2 ⟨aO,aR⟩
   ·show ts.length+kh (a0.drop (w++[n]).length)<=60;rw[List.length_append,List.length_singleton];exact bO
  rw[A.fC (ev s.1 s.2) (λi (ts:List (Option dQ))=>(w,(w.length:Int),s.1+(i:Int),a0,b8,a2,a3,a4,a5,gv,gw,h0,a9,hA,l,ts,())) (λn ts=>.next (ts++(nh (a0,b8,a2,a3,a4,a5,gv,gw,h0,a9,hA) (a0.drop (w.length+1)) (w++[n])).map (iu (a0,b8,a2,a3,a4,a5,gv,gw,h0,a9,hA)))) (λts=>(a0,b8,a2,a3,a4,a5,gv,gw,h0,a9,hA,l,ts,())) (λi ts=>ts.length<=t.length+i*kh (a0.drop (w.length+1))) t ?_ ?_ ?_ ?_]
  ·rw[dP,XS (f:=λn=>(nh (a0,b8,a2,a3,a4,a5,gv,gw,h0,a9,hA) (a0.drop (w.length+1)) (w++[n])).map (iu (a0,b8,a2,a3,a4,a5,gv,gw,h0,a9,hA)))];rw[<-List.map_flatMap];rfl
  ·rw[Int.natCast_zero,Int.add_zero]
  ·simp
  ·intro i G ts af;rw[xZ]at G;have hw:=bC (n:=s.1+(i:Int)+1) (by omega) (by omega);have ar:decide (s.1+(i:Int)<=s.2)=true:=by simpa using (by omega:s.1+(i:Int)<=s.2)
   have hle:=OL (a0,b8,a2,a3,a4,a5,gv,gw,h0,a9,hA) (a0.drop (w.length+1)) (w++[s.1+(i:Int)]);have amD:ts.length+kh (a0.drop (w.length+1))<=60:=by
    have:(i+1)*kh (a0.drop (w.length+1))<=(s.2 - s.1+1).toNat*kh (a0.drop (w.length+1)):=Nat.mul_le_mul_right _ (by omega);rw[Nat.succ_mul]at this;omega
   refine⟨?_,λbd cR=>?_⟩
   ·simp only[Int.toNat_natCast,nj,ar,if_true,ch,hw,DQ,List.take_length];rw[A.bo (by omega),A.bo ⟨by omega,by omega,trivial,by omega⟩,A.bo ⟨by simp only[gW];omega,e7 (by simp only[gW];omega)⟩,Eo _ ts (by omega) (by omega) amD,A.aF];simp only[V.hn];rw[show s.1+((i+1:Nat):Int)=s.1+(i:Int)+1 from by omega]
   ·simp only[V.next.injEq,DQ]at cR;subst cR;rw[List.length_append,List.length_map,Nat.succ_mul];omega
  ·intro ts af;rw[xZ];have ar:decide (s.1+(((s.2 - s.1+1).toNat:Nat):Int)<=s.2)=false:=by simpa using (by omega:s.2<s.1+(((s.2 - s.1+1).toNat:Nat):Int))
   simp only[Int.toNat_natCast,nj,ar,Bool.false_eq_true,if_false,A.aF];rw[A.bo (by omega)]
abbrev uo:aZ:=([],[],[],[],0,0,0,0,0,0,0)
abbrev AU:aL:=⟨.az hp (.bH iP),dk,λx=>∃ c:aZ,x.2=some c/\c.2.2.1.length<2 ^ 63,λx=>(x.2.getD uo).2.2.1.contains (lx x.1)⟩
theorem OT(x):A.le (WS oU.sh x) (AU.sh x):=A.bu λh=>by
 obtain⟨s,o⟩:=x;obtain⟨c,hc,h⟩:=h;change o=some c at hc;subst hc;unfold WS;simp only[Option.getD_some];rw[show oU.sh (c.2.2.1,s.1)=A.pure (c.2.2.1.contains s.1) from A.bR h _,A.aF]
abbrev uq(c:aZ):d':=(c,fv c,(cP c).map (iu c))
def Ep(c:aZ)(f:Option d'->A Bool):Bool:=(f (some (c,fv c,[]))).val false
def sS(c:aZ)(b:Bool):Option d'×Int:=if cM c≠0 then (none,cM c) else if b=false then (none,1) else if cP c=[] then (none,3) else (some (uq c),0)
abbrev vR:aL:=⟨.az iP (.fn (.bH sG) .bool),.az (.bH sG) bx,λx=>gE x.1/\(cM x.1=0->∃ b,x.2 (some (x.1,fv x.1,[]))=A.pure b),λx=>sS x.1 (Ep x.1 x.2)⟩
theorem amE{c:aZ}(aB:gY c):H_ ((λs=>AU.sh (s,some c)),gX c.2.1,())=A.pure ((0,(fv c).length),fv c++List.replicate ((gX c.2.1).length - (fv c).length) jx,()):=by
 have ae:∀ s,AU.sh (s,some c)=A.pure (c.2.2.1.contains s.1):=λs=>A.bR ⟨c,rfl,by have:=aB.jl;omega⟩ _;have e:((gX c.2.1).filter λs=>!(AU.sh (s,some c)).val false)=fv c:=by
  unfold fv;simp_all
 have:=alR c.2.1;refine (A.bR ⟨show (gX c.2.1).length<2 ^ 63 by omega,λs _=>⟨_,ae s⟩⟩ _).trans (congrArg A.pure ?_);grind
set_option maxHeartbeats 1000000 in
theorem amF(x):A.le (Wv hZ.sh H8 H_ (yc 5) AU.sh x) (vR.sh x):=A.bu λh=>by
 obtain⟨c,f⟩:=x;obtain⟨h,ao⟩:=h;change gE c at h;change cM c=0->∃ b,f (some (c,fv c,[]))=A.pure b at ao;unfold Wv;show _=A.pure (sS c (Ep c f));unfold sS;rw[show hZ.sh c=A.pure (cM c) from A.bR h.fU _];simp only[A.aF,decide_eq_true_eq];by_cases hc:cM c=0
 ·simp only[hc,ne_eq,not_true_eq_false,if_false];have aB:=oX hc;obtain⟨b,W⟩:=ao hc;have E:=aB.ec;have hid:=H9 aB.i_;rw[show H8 (c.2.1,())=A.pure (true,gX c.2.1,()) from A.bR ⟨hid,(AJ _).2 aB.AH⟩ _,A.aF];simp only[A.br];rw[amE aB,A.aF];have pH:List.drop 0 (List.take (fv c).length (fv c++List.replicate ((gX c.2.1).length - (fv c).length) jx))=fv c:=by
   rw[List.drop_zero,List.take_left]
  simp only[pH];unfold Ep;simp only[W,A.fs,A.aF];cases b with
  | false=>simp
  | true=>
   simp only[Bool.not_true,Bool.false_eq_true,if_false,A.aF,A.bX,reduceCtorEq];simp only[Prod.db,Prod.ft,Prod.gM,Prod.ir,Prod.jS,Prod.kX,Prod.hN,Prod.nd,Prod.pD,Prod.sE,Prod.x4,Prod.Oa,Prod.D0,Prod.D1,Prod.D2,pH];have nj:yc 5 ([],c.1,c.2.1,c.2.2.1,c.2.2.2.1,c.2.2.2.2.1,c.2.2.2.2.2.1,c.2.2.2.2.2.2.1,c.2.2.2.2.2.2.2.1,c.2.2.2.2.2.2.2.2.1,c.2.2.2.2.2.2.2.2.2.1,c.2.2.2.2.2.2.2.2.2.2,fv c,[],())=A.pure (En c (fv c) ((cP c).map (iu c))):=A.bR ⟨hc,rfl,Nat.zero_le _,show c.1.length<0+5 by omega,rfl,show 0+kh c.1<=60 by have:=h.2 hc;omega⟩ _;rw[nj,A.aF];simp only[bV,List.length_map];by_cases aH:cP c=[]
   ·simp[aH]
   ·have:¬((cP c).length:Int)=0:=λe=>aH (List.eq_nil_of_length_eq_zero (by omega));simp only[this,aH,if_false]
 ·simp only[hc,ne_eq,not_false_eq_true,if_true]
def vS(l:List (Option dQ))(f:Option dQ->A (Int×Bool)):Option (Int×Int):=yb (l.filterMap λt=>if ((f t).val (0,false)).2=true then some ((f t).val (0,false)).1 else none)
abbrev AV:aL:=⟨.az (.bH sG) (.fn (.bH x5) (.az bx .bool)),.az mx .bool,λx=>∃ b:d',x.1=some b/\b.2.2.length<=60/\∀ t∈b.2.2,∃ r,x.2 t=A.pure r,λx=>((vS (x.1.getD (uo,[],[])).2.2 x.2).getD (0,0),(vS (x.1.getD (uo,[],[])).2.2 x.2).isSome)⟩
theorem XZ{ak β gx:Type}(g:ak->Option β)(h:gx->β->gx):∀ (l:List ak) (b:gx),l.foldl (λb x=>(g x).elim b λy=>h b y) b=(l.filterMap g).foldl h b
 | [],b=>rfl
 | x::l,b=>by
  simp only[List.foldl_cons,List.filterMap_cons];rw[XZ g h l];grind
theorem amG(x):A.le (WE x) (AV.sh x):=A.bu λh=>by
 obtain⟨o,f⟩:=x;obtain⟨b,W,aj,ao⟩:=h;change o=some b at W;subst W;unfold WE;show _=A.pure ((vS b.2.2 f).getD (0,0),(vS b.2.2 f).isSome);simp only[Option.isSome_some,A.br,Option.getD_some];change b.2.2.length<=60 at aj;change ∀ t∈b.2.2,∃ r,f t=A.pure r at ao;generalize b.2.2=l at *
 rw[A.dB l (λi (o:Option (Int×Int))=>(f,o.isSome,l,(l.length:Int),(i:Int),o.getD (0,0),())) (λt o=>.next ((if ((f t).val (0,false)).2=true then some ((f t).val (0,false)).1 else none).elim o λn=>some (If o n))) (λo=>.next (o.isSome,o.getD (0,0),())) none ?_ ?_ ?_]
 ·rw[dP,XZ (λt=>if ((f t).val (0,false)).2=true then some ((f t).val (0,false)).1 else none) (λo n=>some (If o n)),A.aF];rfl
 ·rfl
 ·intro i G o;have hw:=bC (n:=(i:Int)+1) (by omega) (by omega);obtain⟨r,M⟩:=ao _ (List.getElem_mem G);simp only[Prod.db,bV,cT G,if_true,df G,cG G,A.br,ch,hw,M,A.aF,A.fs,V.hn];obtain⟨n,cb⟩:=r;cases cb with
  | false=>simp_all
  | true=>
   cases o with
   | none=>simp only[Bool.not_true,Bool.false_eq_true,if_false,if_true,Option.isSome_none,Bool.not_false,A.aF,A.bX,hw,Option.elim];rfl
   | some s=>
    simp only[Bool.not_true,Bool.false_eq_true,if_false,if_true,Option.isSome_some,A.aF,A.bX,hw,Option.elim,Option.getD_some];rw[XK,al8];rfl
 simp
section
variable {ak:Type}
def X0(x:Nat×List (Int×ak)×(Nat×(z1'->Prop)×z1'×Bool)×Unit):A ((Nat×(z1'->Prop)×z1'×Bool)×Unit):=
 A.bind (A.pure ()) λy=>A.loop (λ(D:Nat×(Nat×(z1'->Prop)×z1'×Bool)×(Option (Int×ak)×List (Int×ak))×Unit)=>
 A.bind (Gt D.2.2.1.2) λy=>if Option.isSome y=true then A.bind (A.ab (Option.isSome (nU D.2.2.1.1 D.2.2.1.2 y)=true) (A.pure ())) λb3
 =>A.bind (A.ab (D.1=D.2.1.1/\D.2.1.2.2.2=false/\∃ (T:z1'),D.2.1.2.1 (D.2.1.2.2.1++Option.getD (Option.map (λx=>x.1) (nU
 D.2.2.1.1 D.2.2.1.2 y)) 0::T)) (A.any λx=>True)) λdC=>if (!dC)=true then A.bind (A.pure ((D.2.1.1,D.2.1.2.1,D.2.1.2.2.1++
 [Option.getD (Option.map (λx=>x.1) (nU D.2.2.1.1 D.2.2.1.2 y)) 0],!dC),())) λr=>A.pure (V.done r) else A.pure (V.next (D.1,(D.2.1.1,D.2.1.2.1,D.2.1.2.2.1++[Option.getD (Option.map (λx=>x.1) (nU D.2.2.1.1 D.2.2.1.2 y)) 0],!dC),(nU D.2.2.1.1 D.2.2.1.2 y,CV D.2.2.1.2 y),())) else A.bind (A.pure (D.2.1,())) λr=>A.pure (V.done r)) (x.1,x.2.2.1,(none,x.2.1),())
theorem X1{β:Type}:∀ (l:List β) (i:Nat) (h:i<l.length),(l[i]::l.eraseIdx i).Perm l
 | x::l,0,_=>.refl _
 | x::l,i+1,h=>by
  simp only[List.getElem_cons_succ,List.eraseIdx_cons_succ];exact (List.Perm.swap x _ _).trans ((X1 l i (by grind)).cons x)
theorem X2(l:Nat)(m:List (Int×ak)):A.cw (X0 (l,m,(l,jT (some m),[],false),())) λy=>y.1.2.2.2=false->jT (some m) y.1.2.2.1:=by
 unfold X0;rw[A.aF];refine A.BU (λD=>∃ p c cm,D=(l,(l,jT (some m),p,false),(c,cm),())/\(m.map (·.1)).Perm (p++cm.map (·.1))) (λD=>D.2.2.1.2.length) ?_ _ ⟨[],none,m,rfl,.refl _⟩;rintro D ⟨p,c,cm,rfl,an⟩;simp only;rw[A.f'];refine⟨trivial,λy aS=>?_⟩;cases y with
 | none=>
  have M:cm=[]:=aS;subst M;simp only[Option.isSome_none,Bool.false_eq_true,if_false,A.aF];refine A.ea.2 λ_=>ug.2 (by grind)
 | some i=>
  have G:i<cm.length:=aS;have aw:nU c cm (some i)=some cm[i]:=List.getElem?_eq_getElem G;have M:CV cm (some i)=cm.eraseIdx i:=rfl;have Er:(m.map (·.1)).Perm (p++cm[i].1::(cm.eraseIdx i).map (·.1)):=an.trans (List.Perm.append_left p ((X1 cm i G).symm.map (·.1)));simp only[Option.isSome_some,if_true,aw,M,A.br,A.aF,Option.map_some,Option.getD_some];rw[A.f',A.kK];refine⟨⟨trivial,trivial,(cm.eraseIdx i).map (·.1),ug.2 Er⟩,⟨true,trivial⟩,λb _=>?_⟩;cases b with
  | false=>
   simp only[Bool.not_false,if_true,A.aF];exact A.ea.2 λh=>by cases h
  | true=>
   simp only[Bool.not_true,Bool.false_eq_true,if_false];refine A.ea.2 ⟨⟨p++[cm[i].1],some cm[i],cm.eraseIdx i,rfl,by grind⟩,?_⟩;grind
end
theorem amH(l:Nat)(m:z4'):A.cw (On (l,m,(l,jT (some m),[],false),())) λy=>y.1.2.2.2=false->jT (some m) y.1.2.2.1:=X2 l m
theorem amI(l:Nat)(m:List (Int×a_)):A.cw (Oo (l,m,(l,jT (some m),[],false),())) λy=>y.1.2.2.2=false->jT (some m) y.1.2.2.1:=X2 l m
def dv(cl:z4'):List bA->List bA
 | a::b::r=>(a.1,l3 cl a.2 b.2)::dv cl r
 | _=>[]
def Es(c:aZ)(fX:List (List bA)):Prop:=fX.length=10/\∀ l∈fX,l.length<=12/\∀ i,(h:i+1<l.length)->AO (c,l[i].2,l[i+1].2)
def pK(c:aZ)(fX:List (List bA)):List bA:=fX.flatMap (dv c.2.2.2.1)
def sT(x:Option (Option dQ)×Option (Option d'))(L:List bA):Prop:=∃ t b,x.1=some (some t)/\x.2=some (some b)/\Es b.1 t.2/\L=pK b.1 t.2
theorem amJ{cl:z4'}{l:List bA}{i:Nat}(h:i+1<l.length):dv cl (l.drop i)=(l[i].1,l3 cl l[i].2 l[i+1].2)::dv cl (l.drop (i+2)):=by
 rw[List.drop_eq_getElem_cons (by omega:i<l.length),List.drop_eq_getElem_cons h];rfl
theorem amK{cl:z4'}{l:List bA}{i:Nat}(h:¬i+1<l.length):dv cl (l.drop i)=[]:=by
 have:(l.drop i).length<=1:=by grind
 match h:l.drop i with
 | []=>rfl
 | [_]=>rfl
 | _::_::_=>grind
set_option maxHeartbeats 1000000 in
theorem amL(fi:Nat)(t:dQ)(b:d')(h:Es b.1 t.2):A.cw (HS vO.sh (fi,some t,some b,(fi,sT (some (some t),some (some b)),[],false),())) λy=>y.1.2.2.2=false->sT (some (some t),some (some b)) y.1.2.2.1:=by
 obtain⟨E,U⟩:=h;have Hc:∀ L,sT (some (some t),some (some b)) L<->L=pK b.1 t.2:=λL=>⟨λ⟨cY,bd,ax,aM,_,e⟩=>by cases ax;cases aM;exact e,λe=>⟨t,b,rfl,rfl,⟨E,U⟩,e⟩⟩
 generalize sT (some (some t),some (some b))=S at *
 unfold HS;simp only[Option.isSome_some,A.br,Option.getD_some];refine A.BU (λD=>∃ (u:Nat),u<=10/\D=(fi,some b,t.2,(u:Int),(fi,S,(t.2.take u).flatMap (dv b.1.2.2.2.1),false),())) (λD=>(10 - D.2.2.2.1).toNat) ?_ _ ⟨0,by omega,rfl⟩;rintro D ⟨u,hu,rfl⟩;by_cases Md:u<10
 ·have ar:decide ((u:Int)<10)=true:=by simpa using (by omega:(u:Int)<10)
  have sw:u<t.2.length:=by omega
  have amM:=bC (n:=(u:Int)+1) (by omega) (by omega);have hm:=List.getElem_mem sw;obtain⟨ah,a1⟩:=U _ hm;simp only[ar,if_true,df sw];rw[A.bo (show (0:Int)<=(u:Int)/\(u:Int)<Int.ofNat 10 by rw[bV];omega)];have fR:pK b.1 t.2=(t.2.take u).flatMap (dv b.1.2.2.2.1)++(dv b.1.2.2.2.1 t.2[u]++(t.2.drop (u+1)).flatMap (dv b.1.2.2.2.1)):=by
   unfold pK;conv=>lhs;rw[<-List.take_append_drop u t.2,List.drop_eq_getElem_cons sw]
   simp only[List.flatMap_append,List.flatMap_cons]
  generalize amN:t.2[u]=jW at *
  generalize (t.2.drop (u+1)).flatMap (dv b.1.2.2.2.1)=R at *
  generalize jr:(t.2.take u).flatMap (dv b.1.2.2.2.1)=P at *
  have amO:(t.2.take (u+1)).flatMap (dv b.1.2.2.2.1)=P++dv b.1.2.2.2.1 jW:=by
   rw[List.take_add_one,List.getElem?_eq_getElem sw,Option.toList_some,List.flatMap_append,jr,amN];simp
  rw[A.f'];refine (A.BU (p:=λz=>match z with | .next z=>z=(fi,some b,t.2,(u:Int),(fi,S,P++dv b.1.2.2.2.1 jW,false),()) | .done z=>(match z with | .next _=>False | .done y=>y.1.2.2.2=true)) (λD=>∃ (i:Nat) (Q:List bA),i<=jW.length+1/\Q++dv b.1.2.2.2.1 (jW.drop i)=dv b.1.2.2.2.1 jW/\D=(fi,some b,jW,(i:Int),t.2,(u:Int),(fi,S,P++Q,false),())) (λD=>(20 - D.2.2.2.1).toNat) ?_ _ ⟨0,[],by omega,by simp,by simp⟩).mono λz bk=>?_
  ·rintro D ⟨i,Q,oA,tW,rfl⟩;have hw:=bC (n:=(i:Int)+1) (by omega) (by omega);have gU:=bC (n:=(i:Int)+2) (by omega) (by omega);by_cases G:i+1<jW.length
   ·have L7:i<jW.length:=by omega
    have ar:decide ((i:Int)+1<(jW.length:Int))=true:=by simpa using (by omega:(i:Int)+1<(jW.length:Int))
    have cy:(0:Int)<=(i:Int)+1/\(i:Int)+1<(jW.length:Int):=⟨by omega,by omega⟩
    have jw:jW.getD ((i:Int)+1).toNat ((0,0,0,0,0,0),0)=jW[i+1]:=by
     rw[show ((i:Int)+1).toNat=i+1 from by omega,sN G]
    have em:vO.sh (b.1,jW[i].2,jW[i+1].2)=A.pure (l3 b.1.2.2.2.1 jW[i].2 jW[i+1].2):=A.bR (a1 i G) _;simp only[Prod.db,Prod.ft,bV,ch,hw,ar,if_true,df L7,cG L7,cy,jw,Option.isSome_some,Option.getD_some,em,A.iz,A.fs,and_self,A.br,decide_true];rw[A.f',A.kK];have cW:=amJ (cl:=b.1.2.2.2.1) G;refine⟨⟨trivial,trivial,dv b.1.2.2.2.1 (jW.drop (i+2))++R,(Hc _).2 ?_⟩,⟨true,trivial⟩,λy _=>?_⟩
    ·rw[fR,<-tW,cW];simp
    ·cases y with
     | false=>
      simp only[Bool.not_false,if_true,A.aF];exact A.ea.2 rfl
     | true=>
      simp only[Bool.not_true,Bool.false_eq_true,if_false,gU];refine A.ea.2 ⟨⟨i+2,Q++[(jW[i].1,l3 b.1.2.2.2.1 jW[i].2 jW[i+1].2)],by omega,?_,?_⟩,?_⟩
      ·rw[<-tW,cW];simp
      ·rw[List.append_assoc];rfl
      ·show (20 - ((i:Int)+2)).toNat<(20 - (i:Int)).toNat;omega
   ·have ar:decide ((i:Int)+1<(jW.length:Int))=false:=by simpa using (by omega:(jW.length:Int)<=(i:Int)+1)
    simp only[bV,ch,hw,ar,Bool.false_eq_true,if_false,A.aF];refine A.ea.2 ?_;rw[amK G,List.append_nil]at tW;show (fi,some b,t.2,(u:Int),(fi,S,P++Q,false),())=_;rw[tW]
  ·cases z with
   | next z=>
    have bk:z=_:=bk;subst bk;simp only[A.bX,ch,amM];refine A.ea.2 ⟨⟨u+1,by omega,?_⟩,?_⟩
    ·rw[amO];rfl
    ·show (10 - ((u:Int)+1)).toNat<(10 - (u:Int)).toNat;omega
   | done z=>
    cases z with
    | next z=>exact absurd bk id
    | done y=>
     have bk:y.1.2.2.2=true:=bk;simp only[A.pz];refine A.ea.2 λh=>?_;rw[bk]at h;cases h
 ·have NC:u=10:=by omega
  subst NC;simp only[show decide (((10:Nat):Int)<10)=false from by decide,Bool.false_eq_true,if_false,A.aF];refine A.ea.2 λ_=>(Hc _).2 ?_;show (t.2.take 10).flatMap _=_;rw[<-E,List.take_length];rfl
abbrev AW:aL:=⟨.az (.bH sG) (.bH x5),.ct (.az hp bx),λ_=>True,λx=>sT (some x.2,some x.1)⟩
theorem amP(x):A.le (akN sT x) (AW.sh x):=A.bu λ_=>rfl
end Go.Fer.H
namespace Go.Fer.H
open A (V)
theorem AX{ak β:Type}{f:ak->β}:∀ {l:List ak},(l.map f).Nodup->∀ {a b:ak},a∈l->b∈l->f a=f b->a=b
 | [],_,a,b,a8,_,_=>by grind
 | x::l,aw,a,b,a8,W,e=>by
  rw[List.map_cons,List.nodup_cons]at aw;rcases List.mem_cons.1 a8 with E | E<;>rcases List.mem_cons.1 W with U | U
  ·grind
  ·grind
  ·grind
  ·exact AX aw.2 E U e
theorem amQ{l m:z1'}(h:l.Perm m):l.sum=m.sum:=by
 induction h with
 | nil=>rfl
 | cons x _ aJ=>grind
 | swap x y l=>grind
 | trans _ _ E U=>omega
theorem OU{l:List bA}(h:eE l=true){i:Nat}(G:i<l.length):eo l[i].1=1+((i % 2:Nat):Int)/\(0<i->l[i].2≠(l.getD (i - 1) bG).2):=by
 unfold eE at h;rw[List.all_eq_true]at h;have:=h i (by grind);unfold qx at this;grind
theorem X3(cl:z4'):∀ l:List bA,(∀ i,(h:i<l.length)->eo l[i].1=1+((i % 2:Nat):Int))->dv cl l=((ui l).filter λp=>eo p.1.1 == 1).map λp=>(p.1.1,l3 cl p.1.2 p.2.2)
 | [],_=>rfl
 | [_],_=>rfl
 | [a,b],h=>by
  have a8:eo a.1=1:=h 0 (by simp);simp[dv,ui,a8]
 | a::b::c::r,h=>by
  have a8:eo a.1=1:=h 0 (by simp);have W:eo b.1=2:=h 1 (by simp);have aJ:=X3 cl (c::r) λi G=>by
   have:=h (i+2) (by grind);grind
  have e:ui (a::b::c::r)=(a,b)::(b,c)::ui (c::r):=rfl;rw[e,List.filter_cons_of_pos (by grind),List.filter_cons_of_neg (by grind),List.map_cons,<-aJ];rfl
abbrev nk(c:aZ)(w:z1'):List bA:=pK c (ni c w)
theorem Ip(c:aZ)(w:z1'):nk c w=(ev 0 9).flatMap λu=>dv c.2.2.2.1 (b5 c w u):=by
 rfl
theorem OV{c:aZ}{w:z1'}(hw:iS c w=true){u:Int}(hu:0<=u/\u<=9):gZ c w u=b5 c w u:=by
 unfold gZ;rw[if_pos (Ie hw hu)]
theorem amR{cl:z4'}{l:List bA}(h:eE l=true)(jg:Int):Ej cl jg l=((dv cl l).find? λp=>p.1.1 == jg).map (·.2):=by
 rw[X3 cl l λi G=>(OU h G).1];unfold Ej;rw[List.find?_map,List.find?_filter,Option.map_map];refine congrArg _ (congrArg (λf=>(ui l).find? f) ?_);grind
theorem X4{ak β:Type}{f g:ak->Option β}:∀ {l:List ak},(∀ x∈l,f x=g x)->l.findSome? f=l.findSome? g
 | [],_=>rfl
 | x::l,h=>by
  rw[List.findSome?_cons,List.findSome?_cons,h x (by simp),X4 λy aS=>h y (by grind)]
theorem OW{c:aZ}{w:z1'}(hw:iS c w=true)(jg:Int):jV c w jg=((nk c w).find? λp=>p.1.1 == jg).map (·.2):=by
 unfold jV;rw[Ip,List.find?_flatMap,List.map_findSome?];refine X4 λu hu=>?_;have hu:=sC.1 hu;rw[OV hw hu,amR (Ie hw hu)];rfl
theorem X5{c:aZ}(aB:gY c){w:z1'}(hw:iS c w=true):Es c (ni c w):=by
 have U:=El aB.OF hw;have key:∀ u:Int,0<=u/\u<=9->(b5 c w u).length<=12/\∀ i,(h:i+1<(b5 c w u).length)->AO (c,(b5 c w u)[i].2,(b5 c w u)[i+1].2):=by
  intro u hu;have:=OV hw hu;refine⟨Eg aB w u,?_⟩;have k:=λi=>@XM c aB w U u i;simp only[this]at k;exact k
 refine⟨rfl,λl aj=>?_⟩;simp only[ni,List.mem_cons,List.not_mem_nil,or_false]at aj;rcases aj with rfl | rfl | rfl | rfl | rfl | rfl | rfl | rfl | rfl | rfl<;>exact key _ (by omega)
theorem X6{cl:z4'}:∀ {l:List bA} {p:bA},p∈dv cl l->∃ i,∃ h:i+1<l.length,i % 2=0/\p=(l[i].1,l3 cl l[i].2 l[i+1].2)
 | [],_,h=>by simp[dv]at h
 | [_],_,h=>by simp[dv]at h
 | a::b::r,p,h=>by
  unfold dv at h;rcases List.mem_cons.1 h with rfl | h
  ·exact⟨0,by simp,rfl,rfl⟩
  ·obtain⟨i,G,U,e⟩:=X6 h;exact⟨i+2,by grind,by omega,e⟩
theorem X7(cl:z4'):∀ l:List bA,((dv cl l).map (·.1)).Sublist (l.map (·.1))
 | []=>.slnil
 | [_]=>List.nil_sublist _
 | a::b::r=>by
  unfold dv;simp only[List.map_cons];exact ((X7 cl r).cons _).cons_cons _
theorem X8(l:List a_):((gX l).map (·.1)).Nodup:=by
 unfold gX;have key:∀ L:z1',L.Nodup->((L.filterMap λid=>l.find? λs=>s.1 == id).map (·.1)).Nodup/\∀ k∈(L.filterMap λid=>l.find? λs=>s.1 == id).map (·.1),k∈L:=by
  grind
 refine (key _ ?_).1;unfold ev;show List.Pairwise _ _;rw[List.pairwise_map];exact (List.pairwise_lt_range).imp λh=>by omega
theorem OX(c:aZ):((fv c).map (·.1)).Nodup:=by
 unfold fv;exact (X8 c.2.1).sublist (List.filter_sublist.map _)
theorem OY{c:aZ}{a b:a_}(a8:a∈fv c)(W:b∈fv c)(h:a.1=b.1):a=b:=by
 exact AX (OX c) a8 W h
theorem OZ(c:aZ)(w:z1')(u:Int):((b5 c w u).map (·.1)).Perm ((fv c).filter λs=>decide (ud s=u)):=by
 unfold b5 oW;refine ((Eb hY _).map _).trans ?_;rw[List.map_map];exact List.Perm.of_eq (List.map_id' _)
theorem X9{c:aZ}{w:z1'}{p:bA}(h:p∈nk c w):∃ u,0<=u/\u<=9/\∃ i,∃ G:i+1<(b5 c w u).length,i % 2=0/\p=((b5 c w u)[i].1,l3 c.2.2.2.1 (b5 c w u)[i].2 (b5 c w u)[i+1].2):=by
 rw[Ip,List.mem_flatMap]at h;obtain⟨u,hu,an⟩:=h;obtain⟨i,G,U,e⟩:=X6 an;exact⟨u,(sC.1 hu).1,(sC.1 hu).2,i,G,U,e⟩
theorem AY{c:aZ}{w:z1'}{p:bA}(h:p∈nk c w):p.1∈fv c:=by
 obtain⟨u,_,_,i,G,_,rfl⟩:=X9 h;exact (Eh (List.getElem_mem (by omega:i<(b5 c w u).length))).1
theorem amS{c:aZ}{w:z1'}(hw:iS c w=true){p:bA}(h:p∈nk c w):eo p.1=1:=by
 obtain⟨u,E,U,i,G,ah,rfl⟩:=X9 h;have:=(OU (Ie hw ⟨E,U⟩) (by omega:i<(b5 c w u).length)).1;grind
theorem O0(c:aZ)(w:z1'):((nk c w).map (·.1)).Nodup:=by
 have hc:(fv c).Nodup:=by
  have:=OX c;exact List.Pairwise.of_map _ (λa b h e=>h (by rw[e])) this
 have hu:∀ u,((dv c.2.2.2.1 (b5 c w u)).map (·.1)).Nodup/\∀ s∈(dv c.2.2.2.1 (b5 c w u)).map (·.1),ud s=u:=by
  intro u;have aD:=X7 c.2.2.2.1 (b5 c w u);have an:=OZ c w u;grind
 rw[Ip,List.map_flatMap];have key:∀ L:z1',L.Nodup->(L.flatMap λu=>(dv c.2.2.2.1 (b5 c w u)).map (·.1)).Nodup/\∀ s∈(L.flatMap λu=>(dv c.2.2.2.1 (b5 c w u)).map (·.1)),ud s∈L:=by
  grind
 refine (key _ ?_).1;unfold ev;show List.Pairwise _ _;rw[List.pairwise_map];exact (List.pairwise_lt_range).imp λh=>by omega
theorem X_{ak:Type}(yd:ak->Int):∀ (l:List ak) (n:Int),l.foldl (λn x=>n+yd x) n=n+(l.map yd).sum
 | [],n=>by simp
 | x::l,n=>by simp only[List.foldl_cons,List.map_cons,List.sum_cons];rw[X_ yd l];omega
theorem amT{ak:Type}{f g:ak->Int}{l:List ak}(h:∀ x∈l,f x=g x):(l.map f).sum=(l.map g).sum:=by rw[List.map_congr_left h]
theorem amU{ψ:bA->Int}:∀ (C:List a_) (H:List bA),(C.map (·.1)).Nodup->(H.map (·.1)).Nodup->(∀ p∈H,p.1∈C)->(C.map λs=>(((H.find? λp=>p.1.1 == s.1).map ψ).getD 0)).sum=(H.map ψ).sum:=by
 intro C H jo mO q2;have e:(H.map ψ).sum=((C.filterMap λs=>H.find? λp=>p.1.1 == s.1).map ψ).sum:=by
  refine amQ (List.Perm.map ψ ?_);have amV:H.Nodup:=List.Pairwise.of_map _ (λa b h e=>h (by rw[e])) mO;refine (List.perm_ext_iff_of_nodup amV ?_).2 λp=>?_
  ·have:∀ C:List a_,(C.map (·.1)).Nodup->(C.filterMap λs=>H.find? λp=>p.1.1 == s.1).Nodup/\∀ q∈(C.filterMap λs=>H.find? λp=>p.1.1 == s.1),q.1.1∈C.map (·.1):=by
    grind
   grind
  ·rw[List.mem_filterMap];constructor
   ·intro an;refine⟨p.1,q2 p an,?_⟩;have hex:(H.find? λq=>q.1.1 == p.1.1).isSome=true:=List.find?_isSome.2 ⟨p,an,by simp⟩;obtain⟨q,bt⟩:=Option.isSome_iff_exists.1 hex;have Et:q.1.1=p.1.1:=by grind
    have vT:=List.mem_of_find?_eq_some bt;have amW:q.1=p.1:=AX jo (q2 q vT) (q2 p an) Et;have:q=p:=AX mO vT an amW;grind
   grind
 rw[e];have:∀ C:List a_,(C.map λs=>(((H.find? λp=>p.1.1 == s.1).map ψ).getD 0)).sum=((C.filterMap λs=>H.find? λp=>p.1.1 == s.1).map ψ).sum:=by
  intro C;induction C with
  | nil=>rfl
  | cons s C aJ=>
   grind
 grind
def ur(c:aZ)(g:Int)(p:bA):Int:=if iQ p.1=g then lz c.2.2.2.2 p.2 else 0
theorem amX{c:aZ}{w:z1'}(hw:iS c w=true)(g:Int):Ic c w g=((nk c w).map (ur c g)).sum:=by
 rw[<-amU (ψ:=ur c g) (fv c) (nk c w) (OX c) (O0 c w) λp an=>AY an];unfold Ic;have e:(λ(n:Int) (s:a_)=>if (eo s=1/\iQ s=g)/\(jV c w (lx s)).isSome=true then n+lz c.2.2.2.2 ((jV c w (lx s)).getD 0) else n)=λn s=>n+(if (eo s=1/\iQ s=g)/\(jV c w (lx s)).isSome=true then lz c.2.2.2.2 ((jV c w (lx s)).getD 0) else 0):=by
  grind
 rw[e,X_,Int.zero_add];refine amT λs aD=>?_;rw[OW hw];cases ao:(nk c w).find? λp=>p.1.1 == lx s with
 | none=>simp
 | some p=>
  have an:=List.mem_of_find?_eq_some ao;have E:p.1.1=s.1:=by grind
  have U:p.1=s:=OY (AY an) aD E;have ah:=amS hw an;rw[U]at ah;simp only[Option.map_some,Option.getD_some,Option.isSome_some,and_true,ah,true_and,ur,U]
theorem AZ(c:aZ)(b:Bool):((eK c b).2≠0/\(eK c b).1=[]/\sS c b=(none,(eK c b).2))\/(eK c b=(cP c,0)/\cM c=0/\b=true/\sS c b=(some (uq c),0)):=by
 unfold eK sS;by_cases hc:cM c=0
 ·cases b with
  | false=>left;simp[hc]
  | true=>
   by_cases aH:cP c=[]
   ·left;simp[hc,aH]
   ·right;simp[hc,aH]
 ·left;simp[hc]
theorem O1{ak β:Type}{f g:ak->Option β}:∀ {l:List ak},(∀ x∈l,f x=g x)->l.filterMap f=l.filterMap g
 | [],_=>rfl
 | x::l,h=>by
  rw[List.filterMap_cons,List.filterMap_cons,h x (by simp),O1 λy aS=>h y (by simp[aS])]
theorem X':uj []=(0,0):=rfl
theorem amY{ak:Type}(L:List ak)(P:ak->Option dQ)(f:Option dQ->A (Int×Bool))(v:ak->Int×Bool)(h:∀ w∈L,f (P w)=A.pure (v w)):vS (L.map P) f=yb (L.filterMap λw=>if (v w).2=true then some (v w).1 else none):=by
 unfold vS;rw[List.filterMap_map];refine congrArg yb (O1 λw hw=>?_);simp only[Function.comp,h w hw,A.fs]
theorem Ya{ak:Type}(yd:ak->Int)(L:List ak):(L.filterMap λw=>if ((yd w,true):Int×Bool).2=true then some ((yd w,true):Int×Bool).1 else none)=L.map yd:=by
 simp only[if_true];rw[<-List.filterMap_eq_map']
theorem O2{c:aZ}(aj:(cP c).length<=60){f:Option dQ->A (Int×Bool)}{v:z1'->Int×Bool}(h:∀ w∈cP c,f (iu c w)=A.pure (v w)):AV.sh (some (uq c),f)=A.pure ((yb ((cP c).filterMap λw=>if (v w).2=true then some (v w).1 else none)).getD (0,0),(yb ((cP c).filterMap λw=>if (v w).2=true then some (v w).1 else none)).isSome):=by
 refine (A.bR ⟨uq c,rfl,show ((cP c).map (iu c)).length<=60 by simpa using aj,λt aH=>?_⟩ _).trans (congrArg A.pure ?_)
 ·show ((vS ((cP c).map (iu c)) f).getD (0,0),(vS ((cP c).map (iu c)) f).isSome)=_;rw[amY _ _ f v h]
 ·obtain⟨w,hw,rfl⟩:=List.mem_map.1 aH;exact⟨_,h w hw⟩
theorem amZ:∀ {l:z1'},(yb l).isSome=!l.isEmpty:=by
 intro l;have key:∀ (l:z1') (o:Option (Int×Int)),o.isSome=true->(l.foldl (λo n=>some (If o n)) o).isSome=true:=by
  intro l;induction l with
  | nil=>intro o h;exact h
  | cons n l aJ=>intro o _;exact aJ _ rfl
 cases l with
 | nil=>rfl
 | cons n l=>exact key l _ rfl
theorem Eu{c:aZ}{f:Option d'->A Bool}{b:Bool}(h:gE c)(ao:cM c=0->f (some (c,fv c,[]))=A.pure b):vR.sh (c,f)=A.pure (sS c b):=by
 refine (A.bR ⟨h,λhc=>⟨b,ao hc⟩⟩ _).trans (congrArg A.pure ?_);show sS c (Ep c f)=sS c b;unfold sS Ep;by_cases hc:cM c=0
 ·rw[ao hc,A.fs]
 ·simp[hc]
theorem Ev{c:aZ}(h:gE c)(hc:cM c=0):(cP c).length<=60:=Nat.le_trans (OL c _ _) (h.2 hc)
theorem vU{c:aZ}{w:z1'}(h:w∈cP c):iS c w=true:=OM c _ _ _ h
abbrev A0:aL:=⟨.az hp (.bH bx),dk,λx=>∃ k:Int,x.2=some k/\True,λx=>decide (lx x.1=x.2.getD 0)&&decide (eo x.1=1)⟩
theorem am0(x):A.le (akX x) (A0.sh x):=A.bu λ_=>rfl
abbrev O3:aL:=⟨.az (.bH sG) (.bH bx),dk,λx=>∃ (b:d') (k:Int),x.2=some k/\x.1=some b/\b.2.1.length<2 ^ 63,λx=>(x.1.getD (uo,[],[])).2.1.any λs=>lx s == x.2.getD 0&&eo s == 1⟩
theorem am1(x):A.le (WT (je hp).sh A0.sh x) (O3.sh x):=A.bu λh=>by
 obtain⟨o,k⟩:=x;obtain⟨b,_,_,W,h⟩:=h;change o=some b at W;subst W;unfold WT;simp only[Option.isSome_some,A.br,Option.getD_some];have ae:∀ s,A0.sh (s,some (k.getD 0))=A.pure (decide (lx s=k.getD 0)&&decide (eo s=1)):=λs=>A.bR ⟨_,rfl,trivial⟩ _;rw[show (je hp).sh (b.2.1,λs=>A0.sh (s,some (k.getD 0)))=A.pure (b.2.1.any λs=>(A0.sh (s,some (k.getD 0))).val false) from A.bR ⟨h,λs _=>⟨_,ae s⟩⟩ _,A.aF];refine congrArg A.pure ?_;show _=b.2.1.any λs=>lx s == k.getD 0&&eo s == 1;refine congrArg (λp=>b.2.1.any p) ?_;funext s;rw[ae,A.fs];rw[Bool.eq_iff_iff];simp
theorem Yb{f:Int->A Int}{n:Int}:∀ (L:List bA),(∀ p∈L,p.1.1=n->∃ v,f p.2=A.pure v)->
  jN (λ(D:Int×(Int->A Int)×Int×Bool×Unit) (y:a_×Int)=>A.bind (if decide (y.1.1=D.1)=true then A.bind (D.2.1 y.2) λy=>A.pure (dj.ret,y,true,()) else A.pure
 (dj.normal,D.2.2.1,D.2.2.2.1,())) λp=>A.pure (p.1,D.1,D.2.1,p.2.1,p.2.2.1,())) L (n,f,0,false,())=(L.find? λp=>p.1.1 == n).elim (A.pure (dj.normal,n,f,0,false,())) λp=>A.pure (dj.ret,n,f,(f p.2).val 0,true,())
 | [],_=>rfl
 | p::L,h=>by
  unfold jN;by_cases an:p.1.1=n
  ·obtain⟨v,ae⟩:=h p (by simp) an;simp[an,ae]
  ·have aJ:=Yb L λq bt=>h q (by simp[bt]);simp only[an,decide_false,Bool.false_eq_true,if_false,A.aF];rw[aJ,List.find?_cons_of_neg (by simpa using an)]
abbrev O4:aL:=⟨.az (.bH x5) (.az (.bH (.bH sG)) (.az (.bH bx) (.bH (.fn bx bx)))),.az bx .bool,λx=>∃ (t:dQ) (b:d') (n:Int) (f:Int->A Int),x=(some t,some (some b),some n,some f)/\Es b.1 t.2/\∀ p∈pK b.1 t.2,p.1.1=n->∃ v,f p.2=A.pure v,λx=>((pK ((x.2.1.getD none).getD (uo,[],[])).1 (x.1.getD ([],[])).2).find? λp=>p.1.1 == x.2.2.1.getD 0).elim (0,false) λp=>(((x.2.2.2.getD λ_=>A.fail) p.2).val 0,true)⟩
theorem am2(x):A.le (WU AW.sh x) (O4.sh x):=A.sA λh=>by
 obtain⟨t,b,n,f,rfl,E,U⟩:=h;unfold WU;simp only[Option.getD_some];rw[show AW.sh (some b,some t)=A.pure (sT (some (some t),some (some b))) from rfl,A.aF,A.f'];refine⟨⟨_,t,b,rfl,rfl,E,rfl⟩,λL iM=>?_⟩;obtain⟨cY,bd,ax,aM,_,rfl⟩:=iM;cases ax;cases aM;rw[Yb (f:=f) (n:=n) _ U];show A.cw _ λy=>y=((pK b.1 t.2).find? λp=>p.1.1 == n).elim (0,false) λp=>((f p.2).val 0,true)
 cases (pK b.1 t.2).find? λp=>p.1.1 == n with
 | none=>simp only[Option.elim,A.aF,sg];exact A.ea.2 rfl
 | some p=>simp only[Option.elim,A.aF,sg];exact A.ea.2 rfl
abbrev A1:aL:=⟨.az iP (.az bx (.fn bx bx)),.az mx bx,λx=>gE x.1/\∀ w∈cP x.1,∀ m,cM x.1=0->jV x.1 w x.2.1=some m->∃ v,x.2.2 m=A.pure v,λx=>(uj ((lA x.1 x.2.1).1.map λm=>(x.2.2 m).val 0),(lA x.1 x.2.1).2)⟩
theorem am3(x):A.le (WA vR.sh AV.sh O3.sh O4.sh x) (A1.sh x):=A.bu λh=>by
 obtain⟨c,n,f⟩:=x;obtain⟨h,ao⟩:=h;change gE c at h;change ∀ w∈cP c,∀ m,cM c=0->jV c w n=some m->∃ v,f m=A.pure v at ao;unfold WA;show _=A.pure (uj ((lA c n).1.map λm=>(f m).val 0),(lA c n).2);unfold lA;rw[Eu (b:=AR c n) h λhc=>A.bR ⟨(c,fv c,[]),n,rfl,rfl,by have:=(oX hc).OH;show (fv c).length<2 ^ 63;omega⟩ _];rcases AZ c (AR c n) with⟨E,U,ah⟩ | ⟨E,U,ah,a1⟩
 ·rw[ah];simp only[A.aF];rw[if_pos (by simpa using E),if_pos E];rfl
 ·rw[E,a1];simp only[A.aF];rw[if_neg (by simp)];have aB:=oX U;rw[O2 (v:=λw=>(jV c w n).elim (0,false) λm=>((f m).val 0,true)) (Ev h U) λw hw=>?_,A.aF]
  ·have e:((cP c).filterMap λw=>if ((jV c w n).elim ((0,false):Int×Bool) λm=>((f m).val 0,true)).2=true then some ((jV c w n).elim ((0,false):Int×Bool) λm=>((f m).val 0,true)).1 else none)=((cP c).filterMap λw=>jV c w n).map λm=>(f m).val 0:=by
    rw[List.map_filterMap];refine O1 λw _=>?_;cases jV c w n<;>rfl
   rw[e,amZ];generalize (cP c).filterMap (λw=>jV c w n)=l;cases l with
   | nil=>rfl
   | cons m l=>simp;rfl
  ·have aH:=vU hw;have va:=OW aH n;refine (A.bR ⟨(w,ni c w),uq c,n,f,rfl,X5 aB aH,λp an Yc=>?_⟩ _).trans (congrArg A.pure ?_)
   ·show ((nk c w).find? λp=>p.1.1 == n).elim (0,false) (λp=>((f p.2).val 0,true))=_;rw[va];cases (nk c w).find? λp=>p.1.1 == n<;>rfl
   ·refine ao w hw p.2 U ?_;rw[va];have hex:((nk c w).find? λq=>q.1.1 == n).isSome=true:=List.find?_isSome.2 ⟨p,an,by simpa using Yc⟩;obtain⟨q,bt⟩:=Option.isSome_iff_exists.1 hex;have Et:q.1.1=n:=by have:=List.find?_some bt;simpa using this
    have vT:=List.mem_of_find?_eq_some bt;have aD:q.1=p.1:=OY (AY vT) (AY an) (Et.trans Yc.symm);have:q=p:=AX (O0 c w) vT an aD;rw[bt,this];rfl
abbrev ye:aL:=⟨bx,bx,λ_=>True,λx=>x⟩
theorem am4(x):A.le (akM x) (ye.sh x):=A.bu λ_=>rfl
theorem am5(x):A.le (Wo A1.sh ye.sh x) (Ih.sh x):=A.bu λh=>by
 obtain⟨c,n⟩:=x;change gE c at h;unfold Wo;rw[show A1.sh (c,n,ye.sh)=A.pure (uj ((lA c n).1.map λm=>(ye.sh m).val 0),(lA c n).2) from A.bR ⟨h,λ_ _ m _ _=>⟨m,rfl⟩⟩ _];simp only[A.aF];show _=A.pure (Ig c n);unfold Ig;have:((lA c n).1.map λm=>(ye.sh m).val 0)=(lA c n).1:=by
  have:(λm:Int=>(ye.sh m).val 0)=λm=>m:=by
   funext m;exact A.fs
  rw[this,List.map_id']
 rw[this]
abbrev yf:aL:=⟨.az bx (.bH iP),bx,λx=>∃ c:aZ,x.2=some c/\ya (c.2.2.2.2,x.1),λx=>lz (x.2.getD uo).2.2.2.2 x.1⟩
theorem am6(x):A.le (WB vP.sh x) (yf.sh x):=A.bu λh=>by
 obtain⟨m,q⟩:=x;obtain⟨c,hc,h⟩:=h;change q=some c at hc;subst hc;unfold WB;simp only[Option.getD_some];rw[show vP.sh (c.2.2.2.2,m)=A.pure (lz c.2.2.2.2 m) from A.bR h _,A.aF]
theorem Yd{c:aZ}(aB:gY c){w:z1'}(hw:iS c w=true){n m:Int}(hm:jV c w n=some m):yf.sh (m,some c)=A.pure (lz c.2.2.2.2 m):=by
 have:=XQ aB (El aB.OF hw) hm;exact A.bR ⟨c,rfl,aB.OG,show -100000<=m by omega,show m<=20000 by omega⟩ _
theorem am7{c:aZ}{n m:Int}(hm:m∈(lA c n).1):cM c=0/\∃ w,iS c w=true/\w∈cP c/\jV c w n=some m:=by
 unfold lA at hm;split at hm
 ·simp at hm
 ·split at hm
  ·simp at hm
  ·rw[List.mem_filterMap]at hm;obtain⟨w,hw,he⟩:=hm;obtain⟨E,U,ah,_⟩:=amm hw;exact⟨E,w,ah,U,he⟩
theorem am8(x):A.le (Wn A1.sh yf.sh x) (AT.sh x):=A.bu λh=>by
 obtain⟨c,n⟩:=x;change gE c at h;unfold Wn;rw[show A1.sh (c,n,λm=>yf.sh (m,some c))=A.pure (uj ((lA c n).1.map λm=>(yf.sh (m,some c)).val 0),(lA c n).2) from A.bR ⟨h,λw hw m hc hm=>⟨_,Yd (oX hc) (vU hw) hm⟩⟩ _];simp only[A.aF];show _=A.pure (AS c n);unfold AS;have:((lA c n).1.map λm=>(yf.sh (m,some c)).val 0)=(lA c n).1.map λm=>lz c.2.2.2.2 m:=by
  refine List.map_congr_left λm hm=>?_;obtain⟨hc,w,hw,_,he⟩:=am7 hm;rw[Yd (oX hc) hw he,A.fs]
 rw[this]
abbrev O5:aL:=⟨.az (.bH sG) (.bH bx),dk,λx=>∃ k:Int,x.2=some k/\True,λx=>bZ (x.2.getD 0) 0 99⟩
theorem am9(x):A.le (WH vF.sh x) (O5.sh x):=A.bu λ_=>by
 unfold WH;rw[show vF.sh (x.2.getD 0)=A.pure (bZ (x.2.getD 0) 0 99) from rfl,A.aF]
abbrev O6:aL:=⟨.az (.bH x5) (.az (.bH (.bH sG)) (.az (.bH bx) (.bH iP))),.az bx .bool,λx=>∃ (t:dQ) (b:d') (n:Int) (c:aZ),x=(some t,some (some b),some n,some c)/\Es b.1 t.2/\(pK b.1 t.2).length<=1000/\∀ p∈pK b.1 t.2,ya (c.2.2.2.2,p.2),λx=>(((pK ((x.2.1.getD none).getD (uo,[],[])).1 (x.1.getD ([],[])).2).map (ur (x.2.2.2.getD uo) (x.2.2.1.getD 0))).sum,true)⟩
theorem O7{c:aZ}{n:Int}:∀ (L:List bA) (a:Int),(∀ p∈L,ya (c.2.2.2.2,p.2))->0<=a->a+100000*(L.length:Int)<=1000000000->
  jN (λ(D:Int×aZ×Int×Unit) (y:a_×Int)=>A.bind (if decide (y.1.2.2.2.2.2=D.1)=true then A.ab (vP.sh (D.2.1.2.2.2.2,y.2)).ck (A.pure (dj.normal,IntKind.wrap
 .i64 (Add.add D.2.2.1 (A.val (vP.sh (D.2.1.2.2.2.2,y.2)) 0)),())) else A.pure (dj.normal,D.2.2.1,())) λp=>A.pure (p.1,D.1,D.2.1,p.2.1,())) L (n,c,a,())=A.pure (dj.normal,n,c,a+(L.map (ur c n)).sum,())
 | [],a,_,_,_=>by simp[jN]
 | p::L,a,h,aX,E=>by
  unfold jN;simp only[List.length_cons]at E;by_cases an:p.1.2.2.2.2.2=n
  ·have W:=al' (h p (by simp));have ae:vP.sh (c.2.2.2.2,p.2)=A.pure (lz c.2.2.2.2 p.2):=A.bR (h p (by simp)) _;have hw:=bC (n:=a+lz c.2.2.2.2 p.2) (by omega) (by omega);have aJ:=O7 (c:=c) (n:=n) L (a+lz c.2.2.2.2 p.2) (λq bt=>h q (by simp[bt])) (by omega) (by omega);simp only[an,decide_true,if_true,ae,A.iz,A.fs,A.br,ch,hw,A.aF];simp only[ch]at aJ;rw[aJ,List.map_cons,List.sum_cons];rw[show ur c n p=lz c.2.2.2.2 p.2 from if_pos an];rw[Int.add_assoc]
  ·have aJ:=O7 (c:=c) (n:=n) L a (λq bt=>h q (by simp[bt])) aX (by omega);simp only[an,decide_false,Bool.false_eq_true,if_false,A.aF];rw[aJ,List.map_cons,List.sum_cons];rw[show ur c n p=0 from if_neg an,Int.zero_add]
theorem am_(x):A.le (WJ vP.sh AW.sh x) (O6.sh x):=A.sA λh=>by
 obtain⟨t,b,n,c,rfl,E,U,ah⟩:=h;unfold WJ;simp only[Option.getD_some];rw[show AW.sh (some b,some t)=A.pure (sT (some (some t),some (some b))) from rfl,A.aF,A.f'];refine⟨⟨_,t,b,rfl,rfl,E,rfl⟩,λL iM=>?_⟩;obtain⟨cY,bd,ax,aM,_,rfl⟩:=iM;cases ax;cases aM;rw[O7 _ 0 ah (by omega) (by omega)];show A.cw _ λy=>y=(((pK b.1 t.2).map (ur c n)).sum,true)
 simp only[A.aF,sg,Int.zero_add];exact A.ea.2 rfl
theorem Ye(cl:z4'):∀ l:List bA,(dv cl l).length<=l.length
 | []=>by simp[dv]
 | [_]=>by simp[dv]
 | a::b::r=>by unfold dv;simp only[List.length_cons];have:=Ye cl r;omega
theorem am'{c:aZ}(aB:gY c)(w:z1'):(nk c w).length<=1000:=by
 rw[Ip];have:=OK (λu=>dv c.2.2.2.1 (b5 c w u)) 12 (ev 0 9) λu _=>Nat.le_trans (Ye _ _) (Eg aB w u);rw[show (ev 0 9).length=10 from by decide]at this;omega
theorem ana{c:aZ}(aB:gY c){w:z1'}(hw:iS c w=true){p:bA}(an:p∈nk c w):ya (c.2.2.2.2,p.2):=by
 have hex:((nk c w).find? λq=>q.1.1 == p.1.1).isSome=true:=List.find?_isSome.2 ⟨p,an,by simp⟩;obtain⟨q,bt⟩:=Option.isSome_iff_exists.1 hex;have Et:q.1.1=p.1.1:=by have:=List.find?_some bt;simpa using this
 have vT:=List.mem_of_find?_eq_some bt;have:q=p:=AX (O0 c w) vT an (OY (AY vT) (AY an) Et);have ae:jV c w p.1.1=some p.2:=by rw[OW hw,bt,this];rfl
 have:=XQ aB (El aB.OF hw) ae;exact⟨aB.OG,show -100000<=p.2 by omega,show p.2<=20000 by omega⟩
theorem anb(x):A.le (Wq vR.sh AV.sh O5.sh O6.sh x) (Ij.sh x):=A.bu λh=>by
 obtain⟨c,g⟩:=x;change gE c at h;unfold Wq;show _=A.pure (Ii c g);unfold Ii;rw[Eu (b:=bZ g 0 99) h λhc=>A.bR ⟨g,rfl,trivial⟩ _];rcases AZ c (bZ g 0 99) with⟨E,U,ah⟩ | ⟨E,U,ah,a1⟩
 ·rw[U,ah];simp only[A.aF,List.map_nil,X'];rw[if_pos (by simpa using E)]
 ·rw[E,a1];simp only[A.aF];rw[if_neg (by simp)];have aB:=oX U;rw[O2 (v:=λw=>(Ic c w g,true)) (Ev h U) λw hw=>?_,A.aF,Ya]
  ·rfl
  ·have aH:=vU hw;refine (A.bR ⟨(w,ni c w),uq c,g,c,rfl,X5 aB aH,am' aB w,λp an=>ana aB aH an⟩ _).trans (congrArg A.pure ?_);show (((nk c w).map (ur c g)).sum,true)=_;rw[amX aH]
def my(t:Int):List bA->bA×Bool->bA×Bool
 | [],b=>b
 | e::l,b=>my t l (if e.2<=t then (e,decide (eo e.1=1)) else b)
def g_(l:List bA)(t:Int):bA×Bool:=my t l (bG,false)
theorem Yf{t:Int}{e:bA}{l:List bA}{b:bA×Bool}(h:e.2<=t):my t (e::l) b=my t l (e,decide (eo e.1=1)):=by rw[my,if_pos h]
theorem Yg{t:Int}{e:bA}{l:List bA}{b:bA×Bool}(h:¬e.2<=t):my t (e::l) b=my t l b:=by rw[my,if_neg h]
theorem Yh(t:Int):∀ (l:List bA) (b:bA×Bool),l.foldl (λb e=>if e.2<=t then (e,decide (eo e.1=1)) else b) b=my t l b
 | [],_=>rfl
 | e::l,b=>Yh t l _
theorem anc(l:List bA)(t:Int)(h:∀ e∈l,eo e.1=1\/eo e.1=2):ng l t=(if (g_ l t).2=true then iQ (g_ l t).1.1 else -1,(g_ l t).1.2):=by
 have key:∀ (l:List bA) (b:bA×Bool),(∀ e∈l,eo e.1=1\/eo e.1=2)->l.foldl (λb e=>if e.2<=t then (if eo e.1=2 then (-1,e.2) else (iQ e.1,e.2)) else b) (if b.2=true then iQ b.1.1 else -1,b.1.2)=(if (my t l b).2=true then iQ (my t l b).1.1 else -1,(my t l b).1.2):=by
  intro l;induction l with
  | nil=>intro b _;rfl
  | cons e l aJ=>
   intro b h;rw[List.foldl_cons];by_cases he:e.2<=t
   ·rw[Yf he,<-aJ (e,decide (eo e.1=1)) λx ag=>h x (by grind),if_pos he];grind
   ·rw[Yg he,if_neg he];grind
 exact key l (bG,false) h
theorem Yi(l:List bA)(t:Int):g_ l t=(bG,false)\/((g_ l t).1∈l/\(g_ l t).1.2<=t/\(g_ l t).2=decide (eo (g_ l t).1.1=1)):=by
 have key:∀ (l:List bA) (b:bA×Bool),my t l b=b\/((my t l b).1∈l/\(my t l b).1.2<=t/\(my t l b).2=decide (eo (my t l b).1.1=1)):=by
  intro l;induction l with
  | nil=>intro b;exact .inl rfl
  | cons e l aJ=>
   intro b;by_cases he:e.2<=t
   ·rw[Yf he];grind
   ·rw[Yg he];grind
 exact key l (bG,false)
abbrev O8(t:dQ):Prop:=t.2.length=10/\∀ l∈t.2,l.length<=12
abbrev yg:aL:=⟨.az (.bH x5) (.az bx bx),.az HW .bool,λx=>∃ t:dQ,x.1=some t/\O8 t/\0<=x.2.1/\x.2.1<=9,λx=>g_ ((x.1.getD ([],[])).2.getD x.2.1.toNat []) x.2.2⟩
theorem ane(x):A.le (Wy x) (yg.sh x):=A.bu λh=>by
 obtain⟨o,u,m⟩:=x;obtain⟨t,E,⟨U,ah⟩,a1,bK⟩:=h;change o=some t at E;change 0<=u at a1;change u<=9 at bK;subst E;unfold Wy;show _=A.pure (g_ (t.2.getD u.toNat []) m);simp only[Option.isSome_some,A.br,Option.getD_some];rw[A.bo (show (0:Int)<=u/\u<Int.ofNat 10 by grind)];have hm:t.2.getD u.toNat []∈t.2:=xY a1 (by omega);have aj:=ah _ hm;generalize t.2.getD u.toNat []=l at *
 rw[A.dB l (λi (b:bA×Bool)=>(m,b.2,l,(l.length:Int),(i:Int),bG,b.1,())) (λe b=>.next (if e.2<=m then (e,decide (eo e.1=1)) else b)) (λb=>.next (b.2,bG,b.1,())) (bG,false) ?_ ?_ ?_]
 ·rw[dP,A.aF,Yh];rfl
 ·rfl
 ·intro i G b;have hw:=bC (n:=(i:Int)+1) (by omega) (by omega);simp only[Prod.db,Prod.ft,bV,cT G,if_true,df G,cG G,A.br,ch,hw,V.hn,decide_eq_true_eq];by_cases he:l[i].2<=m
  ·simp_all
  ·simp only[he,if_false,A.aF,A.bX,hw];rfl
 simp
theorem Yj(c:aZ)(w:z1'){u:Int}(aX:0<=u)(h:u<=9):(ni c w).getD u.toNat []=b5 c w u:=by
 have hu:u=0\/u=1\/u=2\/u=3\/u=4\/u=5\/u=6\/u=7\/u=8\/u=9:=by omega
 rcases hu with rfl | rfl | rfl | rfl | rfl | rfl | rfl | rfl | rfl | rfl<;>rfl
theorem Yk{c:aZ}(aB:gY c)(w:z1'):O8 (w,ni c w):=by
 refine⟨rfl,λl aj=>?_⟩;simp only[ni,List.mem_cons,List.not_mem_nil,or_false]at aj;rcases aj with rfl | rfl | rfl | rfl | rfl | rfl | rfl | rfl | rfl | rfl<;>exact Eg aB w _
theorem Yl{c:aZ}(aB:gY c)(w:z1'){u t:Int}(aX:0<=u)(h:u<=9):yg.sh (iu c w,u,t)=A.pure (g_ (b5 c w u) t):=by
 refine (A.bR ⟨_,rfl,Yk aB w,aX,h⟩ _).trans (congrArg A.pure ?_);show g_ ((ni c w).getD u.toNat []) t=_;rw[Yj c w aX h]
theorem anf{c:aZ}(aB:gY c){w:z1'}{u:Int}{e:bA}(he:e∈b5 c w u):eo e.1=1\/eo e.1=2/\iQ e.1=0:=(AM.1 (aB.AN (Eh he).1)).2.2.2.2.2
theorem O9{c:aZ}(aB:gY c){w:z1'}{u:Int}{e:bA}(he:e∈b5 c w u):0<=iQ e.1/\iQ e.1<=99:=(AM.1 (aB.AN (Eh he).1)).2.2.2.2.1
theorem Iq{c:aZ}(aB:gY c){w:z1'}(hw:iS c w=true){u:Int}(hu:0<=u/\u<=9)(t:Int):ng (gZ c w u) t=(if (g_ (b5 c w u) t).2=true then iQ (g_ (b5 c w u) t).1.1 else -1,(g_ (b5 c w u) t).1.2)/\(decide ((ng (gZ c w u) t).1>=0)=(g_ (b5 c w u) t).2):=by
 have e:=anc (b5 c w u) t λe he=>(anf aB he).imp id And.left;rw[OV hw hu];refine⟨e,?_⟩;rw[e];cases W:(g_ (b5 c w u) t).2 with
 | false=>simp
 | true=>
  simp only[if_true,decide_eq_true_eq];rcases Yi (b5 c w u) t with h | ⟨h,_⟩
  ·grind
  ·exact (O9 aB h).1
abbrev A2:aL:=⟨.az (.bH sG) (.bH bx),dk,λx=>∃ k:Int,x.2=some k/\True,λx=>bZ (x.2.getD 0) 0 9999⟩
theorem Ym(x):A.le (WD x8.sh x) (A2.sh x):=A.bu λ_=>by
 unfold WD;rw[show x8.sh (x.2.getD 0)=A.pure (bZ (x.2.getD 0) 0 9999) from rfl,A.aF]
theorem ang(x):A.le (akU x8.sh x) (A2.sh x):=Ym x
def Ew(t:dQ)(m p:Int):Int:=(ev 0 9).foldl (λn u=>if (g_ (t.2.getD u.toNat []) m).2=true then n+p else n) 0
abbrev O_:aL:=⟨.az (.bH x5) (.az (.bH bx) (.bH iP)),.az bx .bool,λx=>∃ (t:dQ) (m:Int) (c:aZ),x=(some t,some m,some c)/\O8 t/\0<=c.2.2.2.2.2.2.2.2.2.2/\c.2.2.2.2.2.2.2.2.2.2<=100000,λx=>(Ew (x.1.getD ([],[])) (x.2.1.getD 0) (x.2.2.getD uo).2.2.2.2.2.2.2.2.2.2,true)⟩
theorem anh(x):A.le (WG yg.sh x) (O_.sh x):=A.bu λh=>by
 obtain⟨t,m,c,rfl,E,U,ah⟩:=h;unfold WG;simp only[Option.getD_some];show _=A.pure (Ew t m c.2.2.2.2.2.2.2.2.2.2,true);rw[A.fC (ev 0 9) (λi (n:Int)=>(some t,m,c,n,(i:Int),())) (λu n=>.next (if (g_ (t.2.getD u.toNat []) m).2=true then n+c.2.2.2.2.2.2.2.2.2.2 else n)) (λn=>.next (n,())) (λi n=>0<=n/\n<=100000*(i:Int)) 0 ?_ ?_ ?_ ?_]
 ·rw[dP,A.aF];rfl
 ·rfl
 ·omega
 ·intro i G n aw;have G:i<10:=by simpa [ev]using G
  have hw:=bC (n:=(i:Int)+1) (by omega) (by omega);have gU:=bC (n:=n+c.2.2.2.2.2.2.2.2.2.2) (by omega) (by omega);have ar:decide ((i:Int)<10)=true:=by grind
  refine⟨?_,λbd cR=>?_⟩
  ·simp only[ar,if_true,DQ,Int.zero_add];rw[show yg.sh (some t,(i:Int),m)=A.pure (g_ (t.2.getD ((i:Int)).toNat []) m) from A.bR ⟨t,rfl,E,by simp,by grind⟩ _];simp only[A.aF,ch,hw,gU,V.hn];by_cases al:(g_ (t.2.getD ((i:Int)).toNat []) m).2=true
   ·simp only[al,if_true,A.aF,A.bX,hw];rfl
   ·simp only[al,Bool.false_eq_true,if_false,A.aF,A.bX,hw];rfl
  grind
 ·intro n aw;have:(ev 0 9).length=10:=by decide
  simp[this]
theorem ani{c:aZ}(aB:gY c){w:z1'}(hw:iS c w=true)(m:Int):Ew (w,ni c w) m c.2.2.2.2.2.2.2.2.2.2=Ib c w m*c.2.2.2.2.2.2.2.2.2.2:=by
 unfold Ew Ib;have key:∀ (L:z1') (n:Int),(∀ u∈L,0<=u/\u<=9)->L.foldl (λn u=>if (g_ ((ni c w).getD u.toNat []) m).2=true then n+c.2.2.2.2.2.2.2.2.2.2 else n) (n*c.2.2.2.2.2.2.2.2.2.2)=(L.foldl (λn u=>if (ng (gZ c w u) m).1>=0 then n+1 else n) n)*c.2.2.2.2.2.2.2.2.2.2:=by
  intro L;induction L with
  | nil=>simp
  | cons u L aJ=>
   intro n h;have hu:=h u (by simp);obtain⟨_,U⟩:=Iq aB hw hu m;simp only[List.foldl_cons];rw[Yj c w hu.1 hu.2];grind
 have:=key (ev 0 9) 0 λu hu=>sC.1 hu;grind
theorem anj(x):A.le (Wp vR.sh AV.sh A2.sh O_.sh x) (Il.sh x):=A.bu λh=>by
 obtain⟨c,t⟩:=x;change gE c at h;unfold Wp;show _=A.pure (Ik c t);unfold Ik;rw[Eu (b:=bZ t 0 9999) h λhc=>A.bR ⟨t,rfl,trivial⟩ _];rcases AZ c (bZ t 0 9999) with⟨E,U,ah⟩ | ⟨E,U,ah,a1⟩
 ·rw[U,ah];simp only[A.aF,List.map_nil,X'];grind
 ·rw[E,a1];simp only[A.aF];rw[if_neg (by simp)];have aB:=oX U;have an:=(Ia.1 aB.OG).2.2.2.2.2.2;rw[O2 (v:=λw=>(Ib c w t*c.2.2.2.2.2.2.2.2.2.2,true)) (Ev h U) λw hw=>?_,A.aF,Ya]
  ·rfl
  ·refine (A.bR ⟨(w,ni c w),t,c,rfl,Yk aB w,an.1,an.2⟩ _).trans (congrArg A.pure ?_);show (Ew (w,ni c w) t c.2.2.2.2.2.2.2.2.2.2,true)=_;rw[ani aB (vU hw)]
theorem Yn(p:Int×Int)(m:z4')(k v:Int):fe (p::m) k v=if decide (k=p.1)=true then (p.1,v)::m else p::fe m k v:=rfl
theorem O'(k v:Int):∀ m:z4',((m.map (·.1)).Nodup->((fe m k v).map (·.1)).Nodup)/\∀ x,x∈(fe m k v).map (·.1)<->x∈m.map (·.1)\/x=k
 | []=>by
  rw[show fe [] k v=[(k,v)] from rfl];simp
 | p::m=>by
  obtain⟨E,U⟩:=O' k v m;rw[Yn];grind
theorem Yo(k v:Int){B:Int}:∀ m:z4',(∀ p∈m,0<=p.2/\p.2<=B)->0<=v/\v<=B->∀ p∈fe m k v,0<=p.2/\p.2<=B
 | [],_,ae,p,an=>by
  rw[show fe [] k v=[(k,v)] from rfl,List.mem_singleton]at an;grind
 | q::m,h,ae,p,an=>by
  rw[Yn]at an;split at an
  ·grind
  ·rcases List.mem_cons.1 an with rfl | an
   ·grind
   ·exact Yo k v m (λx ag=>h x (by grind)) ae p an
def lB(c:aZ)(w:z1')(u t:Int):Int:=if (g_ (b5 c w u) t).2=true then iQ (g_ (b5 c w u) t).1.1 else -1
def yh(m:z4')(k:Int):Int:=Option.getD (Option.map (λx=>x.2) (List.find? (λp=>decide (k=p.1)) m)) 0
structure A3(L:z1')(i:Nat)(m:z4'):Prop where
 mq:(m.map (·.1)).Nodup
 mem:∀ x,x∈m.map (·.1)<->x∈L
 val:∀ p∈m,0<=p.2/\p.2<=(i:Int)
theorem A3.add{L:z1'}{i:Nat}{m:z4'}(h:A3 L i m)(k:Int)(G:i<=60):IntKind.wrap .i64 (yh m k+1)=yh m k+1/\A3 (L++[k]) (i+1) (fe m k (yh m k+1)):=by
 have W:0<=yh m k/\yh m k<=(i:Int):=by
  unfold yh;cases ao:m.find? λp=>decide (k=p.1) with
  | none=>simp
  | some p=>exact h.val p (List.mem_of_find?_eq_some ao)
 refine⟨bC (by omega) (by omega),(O' _ _ _).1 h.mq,λx=>?_,Yo _ _ _ (λp an=>by have:=h.val p an;omega) (by omega)⟩;rw[(O' _ _ _).2,h.mem];simp
theorem ank{c:aZ}(aB:gY c){w:z1'}(hw:iS c w=true){u:Int}(hu:0<=u/\u<=9):((b5 c w u).filter λe=>eo e.1 == 1).length<=11:=by
 have aj:=Eg aB w u;by_cases aye:(b5 c w u).length=12
 ·have E:=(OU (Ie hw hu) (by omega:1<(b5 c w u).length)).1;have E:eo (b5 c w u)[1].1=2:=E;have hm:=List.getElem_mem (by omega:1<(b5 c w u).length);have:((b5 c w u).filter λe=>eo e.1 == 1).length<(b5 c w u).length:=by
   refine List.length_filter_lt_length_iff_exists.2 ⟨_,hm,by grind⟩
  omega
 grind
theorem anl(c:aZ)(w w':z1')(u:Int):(((b5 c w u).filter λe=>eo e.1 == 1).map (·.1)).Perm (((b5 c w' u).filter λe=>eo e.1 == 1).map (·.1)):=by
 have e:∀ w,((b5 c w u).filter λe=>eo e.1 == 1).map (·.1)=((b5 c w u).map (·.1)).filter λs=>eo s == 1:=λw=>by rw[List.filter_map];rfl
 rw[e,e];exact ((OZ c w u).trans (OZ c w' u).symm).filter _
theorem Pa(c:aZ)(w:z1')(u t:Int):lB c w u t=-1\/∃ s∈((b5 c w u).filter λe=>eo e.1 == 1).map (·.1),lB c w u t=iQ s:=by
 unfold lB;rcases Yi (b5 c w u) t with h | ⟨E,U,ah⟩
 ·left;rw[h];rfl
 ·by_cases W:(g_ (b5 c w u) t).2=true
  ·right;rw[if_pos W];rw[ah]at W;exact⟨_,List.mem_map.2 ⟨_,List.mem_filter.2 ⟨E,by simpa using W⟩,rfl⟩,rfl⟩
  ·left;rw[if_neg W]
theorem anm{c:aZ}(aB:gY c){u t:Int}(hu:0<=u/\u<=9){K:z1'}(aw:K.Nodup)(iL:∀ x∈K,x∈(cP c).map λw=>lB c w u t):K.length<=12:=by
 cases aU:cP c with
 | nil=>
  rw[aU]at iL;cases K with
  | nil=>simp
  | cons x K=>have:=iL x (by simp);grind
 | cons w0 T=>
  have Ag:iS c w0=true:=vU (by grind);have q2:K ⊆ -1::(((b5 c w0 u).filter λe=>eo e.1 == 1).map (·.1)).map iQ:=by
   intro x ag;obtain⟨w,hw,rfl⟩:=List.mem_map.1 (iL x ag);rcases Pa c w u t with h | ⟨s,aD,h⟩
   ·grind
   ·rw[h];exact List.mem_cons_of_mem _ (List.mem_map_of_mem ((anl c w w0 u).mem_iff.1 aD))
  have:=aw.length_le_of_subset q2;have ayf:=ank aB Ag hu;grind
abbrev Pb:aL:=⟨.az (.bH sG) (.az (.bH bx) (.bH bx)),dk,λx=>∃ a b:Int,x.2=(some a,some b),λx=>vQ (x.2.1.getD 0) (x.2.2.getD 0)⟩
theorem ano(x):A.le (Ww cr.sh x8.sh x) (Pb.sh x):=A.bu λ_=>by
 unfold Ww;rw[amn,A.aF,show x8.sh (x.2.2.getD 0)=A.pure (bZ (x.2.2.getD 0) 0 9999) from rfl,A.kT,A.aF,vw];rfl
theorem Yp{c:aZ}(aB:gY c){w:z1'}(hw:iS c w=true){u:Int}(hu:0<=u/\u<=9)(t:Int):(ng (gZ c w u) t).1=lB c w u t:=by rw[(Iq aB hw hu t).1];rfl
theorem anp(x):A.le (Wl vR.sh yg.sh sJ.sh H6.sh Pb.sh x) (Im.sh x):=A.sA λh=>by
 obtain⟨c,u,t⟩:=x;change gE c at h;unfold Wl;show A.cw _ λy=>y=ry c u t;unfold ry ON;rw[Eu (b:=vQ u t) h λhc=>A.bR ⟨u,t,rfl⟩ _];rcases AZ c (vQ u t) with⟨E,U,ah⟩ | ⟨E,U,ah,a1⟩
 ·rw[U,ah];simp only[A.aF];rw[if_pos (by grind)];refine A.ea.2 ?_;simp
 ·rw[E,a1];simp only[A.aF];rw[if_neg (by simp)];have aB:=oX U;have cL:(0<=u/\u<=9)/\0<=t/\t<=9999:=by
   unfold vQ at ah;rw[Bool.and_eq_true,oT,oT]at ah;exact ah
  have hu:=cL.1;have hlen:=Ev h U;simp only[Option.isSome_some,A.br,Option.getD_some];show A.cw (A.bind (A.loop _ ((cP c).map (iu c),_,0,u,t,[],())) _) _;rw[A.f'];refine (A.BU (p:=λz=>∃ m,z=.next (m,())/\A3 ((cP c).map λw=>lB c w u t) 60 m) (λD=>∃ (i:Nat) (m:z4'),i<=(cP c).length/\D=((cP c).map (iu c),(((cP c).map (iu c)).length:Int),(i:Int),u,t,m,())/\A3 (((cP c).take i).map λw=>lB c w u t) i m) (λD=>((cP c).length - D.2.2.1).toNat) ?_ _ ⟨0,[],Nat.zero_le _,rfl,⟨.nil,by simp,by simp⟩⟩).mono ?_
  ·rintro D ⟨i,m,oA,rfl,bn⟩;by_cases G:i<(cP c).length
   ·have dv:i<((cP c).map (iu c)).length:=by grind
    have hw:=bC (n:=(i:Int)+1) (by omega) (by omega);have hm:=List.getElem_mem G;obtain⟨b8,a2⟩:=bn.add (lB c (cP c)[i] u t) (by omega);have pH:((cP c).take (i+1)).map (λw=>lB c w u t)=((cP c).take i).map (λw=>lB c w u t)++[lB c (cP c)[i] u t]:=by
     rw[List.take_add_one,List.getElem?_eq_getElem G,Option.toList_some,List.map_append];rfl
    simp only[Prod.db,bV,cT dv,if_true,df dv,cG dv,A.br,List.getElem_map];rw[Yl aB _ hu.1 hu.2,A.aF];have fin:∀ k,k=lB c (cP c)[i] u t->(∃ (la:Nat) (dz:z4'),la<=(cP c).length/\(((cP c).map (iu c),(((cP c).map (iu c)).length:Int),IntKind.wrap .i64 ((i:Int)+1),u,t,fe m k (IntKind.wrap .i64 (yh m k+1)),()):List (Option dQ)×Int×Int×Int×Int×z4'×Unit)=((cP c).map (iu c),(((cP c).map (iu c)).length:Int),(la:Int),u,t,dz,())/\A3 (((cP c).take la).map λw=>lB c w u t) la dz)/\((cP c).length - IntKind.wrap .i64 ((i:Int)+1)).toNat<((cP c).length - (i:Int)).toNat:=by
     grind
    cases W:(g_ (b5 c (cP c)[i] u) t).2 with
    | true=>
     simp only[if_true];rw[A.aF,A.bX];exact A.ea.2 (fin _ (by unfold lB;grind))
    | false=>
     simp only[Bool.false_eq_true,if_false];rw[A.aF,A.bX];exact A.ea.2 (fin (-1) (by unfold lB;grind))
   ·have anq:i=(cP c).length:=by omega
    subst anq;have ar:decide (((cP c).length:Int)<(((cP c).map (iu c)).length:Int))=false:=by simp
    simp only[ar,Bool.false_eq_true,if_false,A.aF];refine A.ea.2 ⟨m,rfl,bn.mq,?_,λp an=>by have:=bn.val p an;omega⟩;have:=bn.mem;grind
  ·rintro z ⟨m,rfl,bn⟩;rw[A.bX];rw[show H6.sh m=A.pure (jT (some m)) from rfl,A.aF];have anr:m.length<=12:=by
    have:=anm aB hu (t:=t) bn.mq λx ag=>(bn.mem x).1 ag;grind
   rw[show sJ.sh (jT (some m))=A.pure (fu hr (m.map (·.1))) from (A.bR (Xu (by omega)) _).trans (congrArg A.pure Xv),A.aF];refine A.ea.2 ?_;have ax:fu hr (m.map (·.1))=(ev (-1) 99).filter λg=>((cP c).map λw=>(ng (gZ c w u) t).1).contains g:=by
    have ans:((cP c).map λw=>(ng (gZ c w u) t).1)=(cP c).map λw=>lB c w u t:=List.map_congr_left λw hw=>Yp aB (vU hw) hu t;rw[ans];have G:(ev (-1) 99).Pairwise (·<·):=by
     unfold ev;rw[List.pairwise_map];exact (List.pairwise_lt_range).imp λh=>by omega
    refine AA ((G.filter _).imp λh=>Int.le_of_lt h) ((List.perm_ext_iff_of_nodup bn.mq ((G.filter _).imp λh=>by omega)).2 λk=>?_);rw[bn.mem,List.mem_filter,sC];simp only[List.contains_iff_mem];refine⟨λal=>⟨?_,al⟩,λal=>al.2⟩;obtain⟨w,hw,rfl⟩:=List.mem_map.1 al;rcases Pa c w u t with h | ⟨s,aD,h⟩
    ·omega
    ·rw[h];obtain⟨e,he,rfl⟩:=List.mem_map.1 aD;have:=O9 aB (List.mem_filter.1 he).1;omega
   rw[ax]
def Pc(c:aZ)(l:List bA)(t:Int):Bool:=(g_ l t).2&&decide (l3 c.2.2.2.1 (g_ l t).1.2 t>=c.2.2.2.2.2.2.2.2.1)
theorem ant{c:aZ}(aB:gY c){w:z1'}(hw:iS c w=true){u:Int}(hu:0<=u/\u<=9)(t:Int):Pc c (b5 c w u) t=Em c w u t:=by
 obtain⟨E,U⟩:=Iq aB hw hu t;unfold Pc Em;grind
theorem anu(x):A.le (Wu vR.sh yg.sh vO.sh A2.sh x) (Io.sh x):=A.bu λh=>by
 obtain⟨c,t⟩:=x;change gE c at h;unfold Wu;show _=A.pure (sQ c t);unfold sQ;rw[Eu (b:=bZ t 0 9999) h λhc=>A.bR ⟨t,rfl,trivial⟩ _];rcases AZ c (bZ t 0 9999) with⟨E,U,ah⟩ | ⟨E,U,ah,a1⟩
 ·rw[ah];simp only[A.aF];grind
 ·rw[E,a1];simp only[A.aF];rw[if_neg (by simp),if_neg (by simp)];have aB:=oX U;have aH:=oT.1 ah;have hlen:=Ev h U;have aU:∀ w∈cP c,iS c w=true:=λw hw=>vU hw;rw[A.fC (ev 0 9) (λi (b:z1'×z1')=>(some (uq c),(i:Int),c,t,b.1,b.2,())) (λu b=>.next (if decide (oY c (cP c) u t=(cP c).length)=true then b.1++[u] else b.1,if decide (oY c (cP c) u t > 0)=true then b.2++[u] else b.2)) (λb=>.next (b.1,b.2,())) (λi b=>b.1.length<=i/\b.2.length<=i) ([],[]) ?_ (by simp) ?_ ?_]
  ·rw[dP,A.aF,A.bX];have key:∀ (p q:Int->Bool) (l:z1') (a b:z1'),l.foldl (λ(z:z1'×z1') u=>(if p u=true then z.1++[u] else z.1,if q u=true then z.2++[u] else z.2)) (a,b)=(a++l.filter p,b++l.filter q):=by
    intro p q l;induction l with
    | nil=>simp
    | cons u l aJ=>
     intro a b;simp only[List.foldl_cons];rw[aJ];cases an:p u<;>cases bt:q u<;>simp[an,bt]
   rw[key (λu=>decide (oY c (cP c) u t=(cP c).length)) (λu=>decide (oY c (cP c) u t > 0))];simp
  ·rfl
  ·intro i G b iF;have G:i<10:=by simpa [ev]using G
   have hw:=bC (n:=(i:Int)+1) (by omega) (by omega);have ar:decide ((i:Int)<10)=true:=by grind
   refine⟨?_,λbd cR=>?_⟩
   ·simp only[ar,if_true,DQ,Int.zero_add,Prod.db,Option.isSome_some,A.br,Option.getD_some];rw[A.fC (cP c) (λk (n:Nat)=>(some (uq c),(i:Int),(n:Int),(i:Int),(cP c).map (iu c),(((cP c).map (iu c)).length:Int),(k:Int),c,t,b.1,b.2,())) (λw n=>.next (if Em c w i t=true then n+1 else n)) (λn=>.next (some (uq c),(i:Int),(n:Int),(i:Int),c,t,b.1,b.2,())) (λk n=>n<=k) 0 ?_ (by simp) ?_ ?_]
    ·rw[dP];have key:∀ (l:List (z1')) (n:Nat),l.foldl (λn w=>if Em c w i t=true then n+1 else n) n=n+oY c l i t:=by
      intro l;induction l with
      | nil=>intro n;rfl
      | cons w l aJ=>
       intro n;simp only[List.foldl_cons];rw[aJ];unfold oY;grind
     rw[key,Nat.zero_add,A.aF,A.bX];have BR:((cP c).map (iu c)).length=(cP c).length:=List.length_map _;simp only[Prod.db,Prod.ft,Prod.gM,bV,Option.isSome_some,A.br,Option.getD_some,BR];have e1:bM (Add.add b.1.length (Add.add 0 1)):=e7 (by grind);have oo:bM (Add.add b.2.length (Add.add 0 1)):=e7 (by grind);have d1:decide ((oY c (cP c) i t:Int) > 0)=decide (oY c (cP c) i t > 0):=by simp
     have d2:decide ((oY c (cP c) i t:Int)=((cP c).length:Int))=decide (oY c (cP c) i t=(cP c).length):=by grind
     rw[d1];cases E:decide (oY c (cP c) i t > 0)<;>cases U:decide (oY c (cP c) i t=(cP c).length)<;>
      simp only[if_true,Bool.false_eq_true,if_false,A.bo e1,A.bo oo,A.aF,A.bX,Option.isSome_some,A.br,Option.getD_some,BR,d2,U,ch,hw,V.hn]<;>rfl
    ·rfl
    ·intro k al n aw;have vL:k<((cP c).map (iu c)).length:=by grind
     have hw:=bC (n:=(k:Int)+1) (by omega) (by omega);have gU:=bC (n:=(n:Int)+1) (by omega) (by omega);have kP:=aU _ (List.getElem_mem al);have l4:=El U kP;have hu:0<=(i:Int)/\(i:Int)<=9:=by omega
     have tF:=ant aB kP hu t;obtain⟨cn,c_⟩:=Iq aB kP hu t;refine⟨?_,λbd cR=>?_⟩
     ·simp only[Prod.db,Prod.ft,Prod.gM,Prod.ir,Prod.jS,Prod.kX,bV,cT vL,if_true,df vL,cG vL,A.br,ch,hw,List.getElem_map];rw[Yl aB _ hu.1 hu.2,A.aF,<-tF];unfold Pc;cases W:(g_ (b5 c (cP c)[k] (i:Int)) t).2 with
      | true=>
       have Cm:AO (c,(g_ (b5 c (cP c)[k] (i:Int)) t).1.2,t):=by
        have:=amo aB l4 aH.2 (u:=(i:Int)) (t:=t) (by grind);grind
       have anv:vO.sh (c,(g_ (b5 c (cP c)[k] (i:Int)) t).1.2,t)=A.pure (l3 c.2.2.2.1 (g_ (b5 c (cP c)[k] (i:Int)) t).1.2 t):=A.bR Cm _;simp only[anv,A.iz,A.fs,Bool.true_and,and_self,forall_const,A.br,true_and];by_cases hm:l3 c.2.2.2.1 (g_ (b5 c (cP c)[k] (i:Int)) t).1.2 t>=c.2.2.2.2.2.2.2.2.1
       ·simp_all
       ·simp only[hm,decide_false,Bool.false_eq_true,if_false,A.aF,A.bX,hw,V.hn];rfl
      | false=>
       simp_all
     grind
    simp
   grind
  ·intro b iF;rfl
def Yq(Pd:aZ->A Int)(x:aZ):A Bool:=
 if (decide (Int.ofNat (List.length x.1) > 20)||decide (Int.ofNat (List.length x.2.1) > 40)||decide (Int.ofNat (List.length x.2.2.1) > 60)||decide (Int.ofNat (List.length x.2.2.2.1) > 40))=true then A.pure true else A.bind (Pd x) λy=>if decide (y≠0)=true then A.pure false else A.bind (A.loop (λ(D:Int×Int×aZ×Unit)=>letI b:=List.getD D.2.2.1.1 (Int.toNat D.2.1) (0,0);letI a:=D.2.1<Int.ofNat (List.length D.2.2.1.1);if decide a=true then A.ab (0<=D.2.1/\a) (A.ab (0<=D.2.1/\a) (A.pure (V.next (IntKind.wrap .i64 (D.1*IntKind.wrap .i64 (Add.add (IntKind.wrap .i64 (b.2-b.1)) 1)),IntKind.wrap .i64 (Add.add D.2.1 1),D.2.2.1,())))) else A.bind (A.pure (V.next (D.1,()))) λr=>A.pure (V.done r)) (1,0,x,())) (V.bz (λ(D:Int×Unit)=>A.pure (decide (D.1 > 60))))
def k1(c:aZ):Bool:=decide (c.1.length > 20)||decide (c.2.1.length > 40)||decide (c.2.2.1.length > 60)||decide (c.2.2.2.1.length > 40)||(decide (cM c=0)&&decide (kh c.1 > 60))
theorem Yr:∀ (l:z4') (n:Nat),l.foldl (λn s=>n*(s.2 - s.1+1).toNat) n=n*kh l
 | [],n=>by simp[kh]
 | s::l,n=>by simp only[List.foldl_cons,kh];rw[Yr l,Nat.mul_assoc]
abbrev vV:aL:=⟨iP,dk,iy,k1⟩
theorem anw(x):A.le (Yq hZ.sh x) (vV.sh x):=A.bu λh=>by
 unfold Yq;show _=A.pure (k1 x);simp only[bV];by_cases aD:(decide ((x.1.length:Int) > 20)||decide ((x.2.1.length:Int) > 40)||decide ((x.2.2.1.length:Int) > 60)||decide ((x.2.2.2.1.length:Int) > 40))=true
 ·rw[if_pos aD];refine congrArg A.pure ?_;unfold k1;grind
 ·rw[if_neg aD,show hZ.sh x=A.pure (cM x) from A.bR h _,A.aF];have e:k1 x=(decide (cM x=0)&&decide (kh x.1 > 60)):=by
   unfold k1;grind
  rw[e];by_cases hc:cM x=0
  ·have aB:=oX hc;rw[if_neg (by grind)];have aw:=aB.ec;rw[A.fC x.1 (λi (n:Nat)=>((n:Int),(i:Int),x,())) (λs n=>.next (n*(s.2 - s.1+1).toNat)) (λn=>.next ((n:Int),())) (λi n=>n<=61 ^ i) 1 ?_ ?_ ?_ ?_]
   ·rw[dP,Yr,Nat.one_mul,A.aF,A.bX];grind
   ·rfl
   ·simp
   ·intro i G n hX;have al:=aB.clk _ (List.getElem_mem G);have W:n<=61 ^ 3:=Nat.le_trans hX (Nat.pow_le_pow_right (by omega) (by omega));have hw:=bC (n:=(i:Int)+1) (by omega) (by omega);have cn:=bC (n:=x.1[i].2 - x.1[i].1) (by omega) (by omega);have c_:=bC (n:=x.1[i].2 - x.1[i].1+1) (by omega) (by omega);have zw:((n*(x.1[i].2 - x.1[i].1+1).toNat:Nat):Int)=(n:Int)*(x.1[i].2 - x.1[i].1+1):=by
     grind
    have hm:n*(x.1[i].2 - x.1[i].1+1).toNat<=61 ^ (i+1):=by
     rw[Nat.pow_succ];exact Nat.mul_le_mul hX (by omega)
    have Hq:n*(x.1[i].2 - x.1[i].1+1).toNat<=61 ^ 4:=Nat.le_trans hm (Nat.pow_le_pow_right (by omega) (by omega));have eY:=bC (n:=(n:Int)*(x.1[i].2 - x.1[i].1+1)) (by omega) (by omega);simp_all
   simp
  grind
theorem anx{c:aZ}(h:k1 c=false):gE c:=by
 unfold k1 at h;simp only[Bool.or_eq_false_iff,decide_eq_false_iff_not,Bool.and_eq_false_imp,decide_eq_true_eq]at h;obtain⟨⟨⟨⟨E,U⟩,ah⟩,a1⟩,bK⟩:=h;exact⟨⟨by omega,by omega,by omega,by omega⟩,λhc=>by omega⟩
end Go.Fer.H
