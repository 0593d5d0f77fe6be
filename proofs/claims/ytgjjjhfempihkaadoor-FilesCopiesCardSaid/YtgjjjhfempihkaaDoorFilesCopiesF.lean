/- Part 6 of the proof of FilesCopies: shallow programs of Go functions, and what they compute. No condition. -/
import Derived.Test.YtgjjjhfempihkaaDoorFilesCopiesE
import Derived.Handed
import Derived.Shelf.Vars
noncomputable section
namespace Go.Fer
open M (Step)
set_option linter.unusedVariables false
set_option linter.unusedSimpArgs false
section
variable {α:Type}
def mix (f:α→α) (B:List α) (i:Nat):List α:=(B.take i).map f++B.drop i
theorem mix_get {f:α→α} {B:List α} {i:Nat} {d:α} (h:i<B.length):(mix f B i).getD i d=B[i]:=by
 unfold mix
 rw [List.getD_eq_getElem?_getD,List.getElem?_append_right (by simp;omega)]
 simp only [List.length_map,List.length_take,List.getElem?_drop]
 have:i+(i - min i B.length)=i:=by omega
 rw [this,List.getElem?_eq_getElem h]
 rfl
theorem mix_set {f:α→α} {B:List α} {i:Nat} (h:i<B.length):(mix f B i).set i (f B[i])=mix f B (i+1):=by
 unfold mix
 rw [List.drop_eq_getElem_cons h,List.set_append_right _ _ (by simp;omega),List.take_add_one,List.getElem?_eq_getElem h]
 have:i - ((B.take i).map f).length=0:=by simp;omega
 rw [this]
 simp only [List.set_cons_zero,List.map_append,Option.toList,List.map_cons,List.map_nil,List.append_assoc,List.cons_append,List.nil_append]
theorem mix_all {f:α→α} {B:List α}:mix f B B.length=B.map f:=by unfold mix;simp
end
theorem deref_blocks {m:Pool} {out O} (h:PoolB m out O):RawOk (.int .u8) m (.slice (.slice (.raws (.int .u8)))) out∧deref (.int .u8) m (.slice (.slice (.raws (.int .u8)))) out=O.map numsB:=by
 refine ⟨fun b hb=>(deref_rows (h.ok b hb)).1,?_⟩
 rw [←h.dat]
 show out.map (deref (.int .u8) m (.slice (.raws (.int .u8))))=_
 exact List.map_congr_left fun b hb=>(deref_rows (h.ok b hb)).2
theorem sum_map_le {α:Type} {f:α→Nat} {c:Nat}:∀ (l:List α),(∀ x∈l,f x≤c)→(l.map f).sum≤c*l.length
 | [],_=>Nat.zero_le _
 | x::l,h=>by
  have:=sum_map_le l fun y hy=>h y (List.mem_cons_of_mem _ hy)
  have:=h x (by simp)
  simp only [List.map_cons,List.sum_cons,List.length_cons,Nat.mul_add,Nat.mul_one]
  omega
theorem linesS_shaped:∀ {W:Nat} (l:List (List UInt8)),(∀ r∈l,r.length=W)→(linesS l).length=l.length*(W+1)
 | W,[],_=>by simp [linesS]
 | W,r::l,h=>by
  have ih:=linesS_shaped l fun r hr=>h r (List.mem_cons_of_mem _ hr)
  have hr:=h r (by simp)
  unfold linesS at ih ⊢
  simp only [List.flatMap_cons,List.length_append,ih,List.length_cons,List.length_nil,hr,Nat.add_mul,Nat.one_mul]
  omega
theorem textS_shaped {W:Nat} {l:List (List UInt8)} (h:shaped W l):(textS l).length=l.length*(W+1)+1:=by
 unfold textS
 rw [List.length_append,linesS_shaped l fun r hr=>(h.2.2.2.2 r hr).1]
 rfl
theorem fixS_len {W:Nat} {l:List (List UInt8)} (h:shaped W l):(fixS l).length=l.length:=by
 have h1:(numsB (fixS l)).length=(fixR (numsB l)).length:=by rw [fixS_nums h]
 rw [List.length_map] at h1
 rw [h1]
 unfold fixR
 split
 ·unfold mendI;simp
 ·simp
def lostS (l:List (List UInt8)):Bool:=decide ((lookS l).1=2)
def placeS (n:Nat) (l:List (List UInt8)):Int:=if (lookS l).1=1 then (n:Int)+(lookS l).2.1*((wideL l:Int)+1)+(lookS l).2.2 else -1
def fromAt (B:List (List (List UInt8))) (i:Nat):Nat:=((B.take i).map fun l=>(textS l).length).sum
def placesV (B:List (List (List UInt8))):List Int:=(List.range B.length).map fun k=>placeS (fromAt B k) (B.getD k [])
def readV (f:List UInt8):List (List UInt8)×List Int×Int:=
 if (blocksV f).1=false then ([],[],140)
 else if (blocksV f).2.any lostS=true then ([],[],141)
 else if (textsV ((blocksV f).2.map fixS)).2=false then ([],[],142)
 else ((textsV ((blocksV f).2.map fixS)).1,placesV (blocksV f).2,0)
theorem fromAt_le {B:List (List (List UInt8))} (h:∀ l∈B,shaped (wideL l) l) (i:Nat):fromAt B i≤600*i:=by
 unfold fromAt
 have:=sum_map_le (f:=fun l=>(textS l).length) (c:=600) (B.take i) fun l hl=>shaped_text (h l (List.mem_of_mem_take hl))
 have h2:(B.take i).length≤i:=by simp;omega
 have h3:600*(B.take i).length≤600*i:=Nat.mul_le_mul_left _ h2
 omega
theorem fromAt_succ {B:List (List (List UInt8))} {i:Nat} (h:i<B.length):fromAt B (i+1)=fromAt B i+(textS B[i]).length:=by
 unfold fromAt
 rw [List.take_add_one,List.getElem?_eq_getElem h]
 simp only [Option.toList,List.map_append,List.map_cons,List.map_nil,List.sum_append,List.sum_cons,List.sum_nil,Nat.add_zero]
theorem blocks_shaped (f:List UInt8):∀ l∈(blocksV f).2,shaped (wideL l) l:=fun l hl=>shaped_of ((blocksV_out f).1 l hl)
abbrev fcRead:FC:=⟨.str,.prod (.slice .str) (.prod (.slice (.int .i64)) (.int .i64)),fun x=>List.length x<65536,fun x=>readV x⟩
theorem sRead (x):M.le (S_files_read shCut shLook fcText.pre fcText.g fcUnpack.pre fcUnpack.g x) (fcRead.sh x):=M.le_detR fun h=>by
 change List UInt8 at x
 generalize x=f at h ⊢
 change f.length<65536 at h
 unfold S_files_read
 show M.Ret _ fun y=>y=readV f
 unfold readV
 rw [M.ret_bind]
 refine ⟨⟨h,by simp⟩,?_⟩
 rintro ⟨okc,out,m,u⟩ ⟨p1,p2,_⟩
 change okc=(blocksV f).1 at p1
 change PoolB m out (if (blocksV f).1=true then (blocksV f).2 else []) at p2
 subst p1
 have hbl:=(blocksV_out f).2
 have hsh:=blocks_shaped f
 dsimp only
 cases hB:(blocksV f).1 with
 | false=>exact M.ret_pure.2 rfl
 | true=>
  rw [hB,if_pos rfl] at p2
  generalize (blocksV f).2=B at p2 hbl hsh
  have hol:=p2.len
  rw [if_neg (by decide),if_neg (by decide),M.ret_bind]
  refine M.ret_loopN B.length (fun i s=>s.1=(fromAt B i:Int)∧s.2.1=(B.length:Int)∧s.2.2.1=(i:Int)∧s.2.2.2.1=(List.range i).map (fun k=>placeS (fromAt B k) (B.getD k []))∧s.2.2.2.2.1=out∧PoolB s.2.2.2.2.2.1 out (mix fixS B i)∧∀ k,k<i→lostS (B.getD k [])=false) ⟨rfl,by rw [ofNat_def,hol],rfl,rfl,rfl,p2,fun k hk=>absurd hk (Nat.not_lt_zero k)⟩ ?_ ?_
  ·rintro i hi ⟨s1,s2,s3,s4,s5,m',u'⟩ ⟨e1,e2,e3,e4,e5,k1,k2⟩
   change s1=_ at e1
   change s2=_ at e2
   change s3=_ at e3
   change s4=_ at e4
   change s5=out at e5
   change PoolB m' out _ at k1
   change ∀ k,k<i→_ at k2
   subst e1 e2 e3 e5
   have hi2:i<s5.length:=by omega
   have hw:=wrap64 (n:=(i:Int)+1) (by omega) (by omega)
   have hzi:((i:Int)).toNat=i:=rfl
   have hl:=hsh _ (List.getElem_mem hi)
   have hgm:(mix fixS B i).getD i []=B[i]:=mix_get hi
   obtain ⟨q1,q2,q3,_⟩:=k1.look hi2 (W:=wideL B[i]) (by rw [hgm];exact hl)
   rw [hgm] at q2 q3
   rw [mix_set hi] at q3
   have hgB:B.getD i []=B[i]:=by rw [List.getD_eq_getElem?_getD,List.getElem?_eq_getElem hi];rfl
   have hlk:shLook (s5.getD i [],m',())=M.pure ((lookS B[i]).1,(lookS B[i]).2,poolL (s5.getD i [],m',()),()):=by
    unfold shLook
    rw [q2]
    exact M.det_true q1 _
   have hfr:=fromAt_le hsh i
   have htl:=shaped_text hl
   generalize hQ:poolL (s5.getD i [],m',())=Q at q3 hlk
   have hrowQ:=q3.row hi2
   have hbok:=q3.ok _ (getD_out hi2)
   obtain ⟨d1,d2⟩:=deref_rows hbok
   have hmg:(mix fixS B (i+1)).getD i []=fixS B[i]:=by
    rw [←mix_set hi,List.getD_eq_getElem?_getD,List.getElem?_set_self (by unfold mix;simp;omega)]
    rfl
   rw [hmg] at hrowQ
   rw [hrowQ] at d2
   have hfs:=fixS_shaped hl
   have hfl:=fixS_len hl
   have hpt:fcText.pre (numsB (fixS B[i])):=⟨by show (numsB (fixS B[i])).length<65536;rw [List.length_map,hfl];have:=hl.2.1;omega,fun r hr=>(hfs.nums.row hr).2.1⟩
   have hgt:bytesOf (textI (numsB (fixS B[i])))=textS (fixS B[i]):=by
    rw [←textS_nums,bytesOf_numsOf]
   have htl2:(textS (fixS B[i])).length=(textS B[i]).length:=by rw [textS_shaped hfs,textS_shaped hl,hfl]
   have hpl:s4.length=i:=by rw [e4];simp
   have hwf:=wrap64 (n:=(fromAt B i:Int)+((textS B[i]).length:Int)) (by omega) (by omega)
   simp only [ofNat_def,lt_len hi,if_true,hzi,Prod.q5]
   rw [M.ret_req]
   refine ⟨⟨by omega,by omega⟩,?_⟩
   erw [hlk]
   rw [M.bind_pure]
   dsimp only
   by_cases c2:(lookS B[i]).1=2
   ·rw [if_pos (decide_eq_true c2),M.bind_pure,M.bind_pure,M.bind_pure,M.bind_pure]
    refine M.ret_pure.2 ?_
    show M.Ret (M.pure (([],[],141):List (List UInt8)×List Int×Int)) _
    refine M.ret_pure.2 ?_
    rw [if_pos]
    exact List.any_eq_true.2 ⟨_,List.getElem_mem hi,decide_eq_true c2⟩
   ·rw [if_neg (by rw [decide_eq_true_iff];exact c2)]
    have hlost:∀ k,k<i+1→lostS (B.getD k [])=false:=fun k hk=>by
     by_cases e:k=i
     ·subst e
      rw [hgB]
      exact decide_eq_false c2
     ·exact k2 k (by omega)
    have hplc:∀ p,p=placeS (fromAt B i) B[i]→s4++[p]=(List.range (i+1)).map fun k=>placeS (fromAt B k) (B.getD k []):=fun p hp=>by
     rw [List.range_succ,List.map_append,←e4,hp,←hgB]
     rfl
    have hsucc:=fromAt_succ hi
    by_cases c1:(lookS B[i]).1=1
    ·rw [if_pos (decide_eq_true c1)]
     have hlc:∃ r a:Nat,lookS B[i]=(1,(r:Int),(a:Int))∧r<9∧a<62:=by
      rcases lookI_cases (wideL B[i]) (numsB B[i]) with ⟨e,_⟩ | ⟨e,_⟩ | ⟨r,a,e,hr,ha,_,_,_⟩
      ·unfold lookS at c1;rw [e] at c1;exact absurd c1 (by decide)
      ·unfold lookS at c1;rw [e] at c1;exact absurd c1 (by decide)
      ·rw [List.length_map] at hr
       have g1:=hl.2.1
       have g2:=hl.2.2.2.1
       refine ⟨r,a,e,?_,by omega⟩
       have hrlt:(r:Nat)<B[i].length:=hr
       rcases Nat.lt_or_ge r 9 with hh | hh
       ·exact hh
       ·omega
     obtain ⟨r,a,hra,hr9,ha62⟩:=hlc
     have hb0:0<(s5.getD i []).length:=by
      have:=congrArg List.length hrowQ
      rw [rowsH_len,List.length_map,hfl] at this
      have:=hl.1
      omega
     have hW:((s5.getD i []).getD 0 (0,0,0)).2.2=wideL B[i]:=by
      have hk:=k1.ok _ (getD_out hi2) _ (getD_memH hb0)
      rw [hk.2.2,←rowsH_get hb0,k1.row hi2,hgm,getD_nums,numsOf_len]
     have z:(0:Int).toNat=0:=rfl
     have hWl:=hl.2.2.2.1
     rw [M.req_true ⟨Int.le_refl _,by omega⟩,M.bind_pure,M.go_next]
     dsimp only
     rw [M.ret_req]
     refine ⟨by unfold lenLe;simp only [add_defN];omega,?_⟩
     rw [M.ret_req]
     refine ⟨⟨d1,by rw [d2];exact hpt⟩,M.ret_pure.2 ?_⟩
     rw [d2,hgt,hra,htl2,z,hW]
     dsimp only
     have w1:=wrap64 (n:=(wideL B[i]:Int)+1) (by omega) (by omega)
     have hrw:(r:Int)*((wideL B[i]:Int)+1)≤9*63:=Int.mul_le_mul (by omega) (by omega) (by omega) (by omega)
     have hrw0:0≤(r:Int)*((wideL B[i]:Int)+1):=Int.mul_nonneg (by omega) (by omega)
     have w2:=wrap64 (n:=(r:Int)*((wideL B[i]:Int)+1)) (by omega) (by omega)
     have w3:=wrap64 (n:=(fromAt B i:Int)+(r:Int)*((wideL B[i]:Int)+1)) (by omega) (by omega)
     have w4:=wrap64 (n:=(fromAt B i:Int)+(r:Int)*((wideL B[i]:Int)+1)+(a:Int)) (by omega) (by omega)
     simp only [add_def,w1,w2,w3,w4,hwf,hw]
     refine ⟨by show _=((fromAt B (i+1):Nat):Int);rw [hsucc];omega,trivial,by show (i:Int)+1=((i+1:Nat):Int);omega,hplc _ ?_,trivial,q3,hlost⟩
     unfold placeS
     rw [hra,if_pos rfl]
    ·rw [if_neg (by rw [decide_eq_true_iff];exact c1),M.bind_pure,M.go_next]
     dsimp only
     rw [M.ret_req]
     refine ⟨by unfold lenLe;simp only [add_defN];omega,?_⟩
     rw [M.ret_req]
     refine ⟨⟨d1,by rw [d2];exact hpt⟩,M.ret_pure.2 ?_⟩
     rw [d2,hgt,htl2]
     simp only [add_def,hwf,hw]
     refine ⟨by show _=((fromAt B (i+1):Nat):Int);rw [hsucc];omega,trivial,by show (i:Int)+1=((i+1:Nat):Int);omega,hplc _ ?_,trivial,q3,hlost⟩
     unfold placeS
     rw [if_neg c1]
  ·rintro ⟨s1,s2,s3,s4,s5,m',u'⟩ ⟨e1,e2,e3,e4,e5,k1,k2⟩
   change s1=_ at e1
   change s2=_ at e2
   change s3=_ at e3
   change s4=_ at e4
   change s5=out at e5
   change PoolB m' out _ at k1
   subst e1 e2 e3 e5
   rw [mix_all] at k1
   have hno:¬B.any lostS=true:=fun k=>by
    obtain ⟨l,hl,hx⟩:=List.any_eq_true.1 k
    obtain ⟨i,hi,rfl⟩:=List.mem_iff_getElem.1 hl
    have:=k2 i hi
    rw [List.getD_eq_getElem?_getD,List.getElem?_eq_getElem hi] at this
    have this:lostS B[i]=false:=this
    rw [hx] at this
    cases this
   obtain ⟨d1,d2⟩:=deref_blocks k1
   have hshF:∀ l∈B.map fixS,shaped (wideL l) l:=fun l hl=>by
    obtain ⟨b,hb,rfl⟩:=List.mem_map.1 hl
    have:=fixS_shaped (hsh b hb)
    rw [this.wide]
    exact this
   have hpu:fcUnpack.pre ((B.map fixS).map numsB):=⟨by show ((B.map fixS).map numsB).length<65536;simp;omega,fun l hl=>by
    obtain ⟨b,hb,rfl⟩:=List.mem_map.1 hl
    have:=(hshF b hb).nums
    rw [this.wide]
    exact this⟩
   have hgu:unpackS (((B.map fixS).map numsB).map (List.map bytesOf))=unpackS (B.map fixS):=by
    rw [List.map_map]
    have:(B.map fixS).map (List.map bytesOf ∘ numsB)=(B.map fixS).map id:=List.map_congr_left fun l _=>bytes_nums l
    rw [this,List.map_id]
   obtain ⟨u1,u2⟩:=unpackS_eq hshF
   dsimp only
   rw [if_neg (by simp),M.bind_pure]
   refine M.ret_pure.2 ?_
   show M.Ret (M.req _ _) _
   simp only [Prod.q5]
   rw [M.ret_req]
   refine ⟨⟨d1,by rw [d2];exact hpu⟩,?_⟩
   rw [d2,hgu,u1,if_neg hno]
   cases ht:(textsV (B.map fixS)).2 with
   | false=>exact M.ret_pure.2 rfl
   | true=>
    rw [if_neg (by decide),if_neg (by decide),u2 ht]
    exact M.ret_pure.2 (by show (_,s4,_)=_;rw [e4];rfl)
end Go.Fer
namespace Go.Fer
open M (Step)
set_option linter.unusedVariables false
set_option linter.unusedSimpArgs false
def hurtAt (p:List Int):List Int:=(idxI p.length).filter fun v=>decide (p.getD v.toNat 0≠-1)
def readL (f:List UInt8):List (List UInt8)×List Int×Int:=((readV f).1,hurtAt (readV f).2.1,(readV f).2.2)
abbrev fcReadF:FC:=⟨.str,.prod (.slice .str) (.prod (.slice (.int .i64)) (.int .i64)),fun x=>List.length x<65536,fun x=>readL x⟩
theorem readV_places (f:List UInt8):(readV f).2.1.length≤f.length:=by
 have:=(blocksV_out f).2
 unfold readV
 split
 ·exact Nat.zero_le _
 ·split
  ·exact Nat.zero_le _
  ·split
   ·exact Nat.zero_le _
   ·unfold placesV;simpa using this
theorem sReadF (x):M.le (S_files_Read fcRead.sh x) (fcReadF.sh x):=M.le_det fun h=>by
 change List UInt8 at x
 generalize x=f at h ⊢
 change f.length<65536 at h
 unfold S_files_Read
 show _=M.pure (readL f)
 have hp:=readV_places f
 rw [show fcRead.sh f=M.pure (readV f) from M.det_true (show f.length<65536 from h) _,M.bind_pure]
 unfold readL
 generalize readV f=r at hp
 obtain ⟨ts,p,e⟩:=r
 change p.length≤f.length at hp
 dsimp only
 rw [M.loop_list (idxI p.length) (fun i (o:List Int)=>(ts,e,p,(p.length:Int),(i:Int),o,())) (fun v o=>.next (if decide (p.getD v.toNat 0≠-1)=true then o++[v] else o)) (fun o=>.next (ts,e,o,())) (fun i o=>o.length≤i) [] ?_ ?_ ?_ ?_]
 ·rw [foldS_next,foldl_filter_app,M.bind_pure,M.go_next]
  rfl
 ·rfl
 ·exact Nat.le_refl _
 ·intro i hi o ho
  rw [idxI_len] at hi
  have hw:=wrap64 (n:=(i:Int)+1) (by omega) (by omega)
  have hzi:((i:Int)).toNat=i:=rfl
  have hd:decide ((i:Int)<(p.length:Int))=true:=decide_eq_true (by omega)
  refine ⟨?_,fun o' ho'=>?_⟩
  ·simp only [hd,if_true,ofNat_def,hzi,Prod.q5,add_defN]
   rw [M.req_true ⟨by omega,by omega⟩,idxI_get (by rw [idxI_len];exact hi),hzi]
   cases decide (p.getD i 0≠-1) with
   | true=>
    rw [if_pos rfl,M.req_true (by unfold lenLe;omega),M.bind_pure,M.go_next]
    dsimp only
    rw [add_def,hw,if_pos rfl]
    rfl
   | false=>
    rw [if_neg (by decide),M.bind_pure,M.go_next]
    dsimp only
    rw [add_def,hw,if_neg (by decide)]
    rfl
  ·simp only [Step.next.injEq] at ho'
   subst ho'
   split<;>(try simp only [List.length_append,List.length_singleton])<;>omega
 ·intro o ho
  rw [idxI_len]
  simp
abbrev fcDamage:FC:=⟨.str,.prod (.slice (.int .i64)) (.int .i64),fun x=>List.length x<65536,fun x=>(readV x).2⟩
theorem sDamage (x):M.le (S_files_Damage fcRead.sh x) (fcDamage.sh x):=M.le_det fun h=>by
 unfold S_files_Damage
 rw [show fcRead.sh x=M.pure (readV x) from M.det_true h _,M.bind_pure]
theorem hurtS_look {l:List (List UInt8)} (h:shaped (wideL l) l):hurtS l=decide ((lookS l).1≠0):=by
 unfold hurtS lookS
 rw [badRows_nums h,badCols_nums h]
 refine decide_eq_decide.2 ?_
 rcases lookI_cases (wideL l) (numsB l) with ⟨e,c⟩ | ⟨e,c⟩ | ⟨r,a,e,_,_,e1,e2,_⟩
 ·rw [e];exact ⟨fun k=>absurd k (by omega),fun k=>absurd rfl k⟩
 ·rw [e];exact ⟨fun _=>by decide,fun _=>by omega⟩
 ·rw [e,e1,e2];exact ⟨fun _=>(by show (1:Int)≠0;decide),fun _=>(by show 0<1+1;decide)⟩
theorem sCheckF (x):M.le (S_files_Check shCut shLook x) (fcCheckF.sh x):=M.le_detR fun h=>by
 change List UInt8 at x
 generalize x=f at h ⊢
 change f.length<65536 at h
 unfold S_files_Check
 show M.Ret _ fun y=>y=checkFV f
 unfold checkFV
 rw [M.ret_bind]
 refine ⟨⟨h,by simp⟩,?_⟩
 rintro ⟨okc,out,m,u⟩ ⟨p1,p2,_⟩
 change okc=(blocksV f).1 at p1
 change PoolB m out (if (blocksV f).1=true then (blocksV f).2 else []) at p2
 subst p1
 have hbl:=(blocksV_out f).2
 have hsh:=blocks_shaped f
 dsimp only
 cases hB:(blocksV f).1 with
 | false=>exact M.ret_pure.2 rfl
 | true=>
  rw [hB,if_pos rfl] at p2
  generalize (blocksV f).2=B at p2 hbl hsh
  have hol:=p2.len
  rw [if_neg (by decide),if_pos rfl,M.ret_bind]
  refine M.ret_loopN B.length (fun i s=>s.1=(((B.take i).filter hurtS).length:Int)∧s.2.1=(B.length:Int)∧s.2.2.1=(i:Int)∧s.2.2.2.1=out∧PoolB s.2.2.2.2.1 out (mix fixS B i)) ⟨rfl,by rw [ofNat_def,hol],rfl,rfl,p2⟩ ?_ ?_
  ·rintro i hi ⟨s1,s2,s3,s4,m',u'⟩ ⟨e1,e2,e3,e4,k1⟩
   change s1=_ at e1
   change s2=_ at e2
   change s3=_ at e3
   change s4=out at e4
   change PoolB m' out _ at k1
   subst e1 e2 e3 e4
   have hi2:i<s4.length:=by omega
   have hw:=wrap64 (n:=(i:Int)+1) (by omega) (by omega)
   have hzi:((i:Int)).toNat=i:=rfl
   have hl:=hsh _ (List.getElem_mem hi)
   have hgm:(mix fixS B i).getD i []=B[i]:=mix_get hi
   obtain ⟨q1,q2,q3,_⟩:=k1.look hi2 (W:=wideL B[i]) (by rw [hgm];exact hl)
   rw [hgm] at q2 q3
   rw [mix_set hi] at q3
   have hlk:shLook (s4.getD i [],m',())=M.pure ((lookS B[i]).1,(lookS B[i]).2,poolL (s4.getD i [],m',()),()):=by
    unfold shLook
    rw [q2]
    exact M.det_true q1 _
   have hcl:((B.take i).filter hurtS).length≤i:=Nat.le_trans (List.length_filter_le _ _) (by simp;omega)
   have hwc:=wrap64 (n:=(((B.take i).filter hurtS).length:Int)+1) (by omega) (by omega)
   have hsucc:((B.take (i+1)).filter hurtS).length=((B.take i).filter hurtS).length+if hurtS B[i]=true then 1 else 0:=by
    rw [List.take_add_one,List.getElem?_eq_getElem hi,List.filter_append,List.length_append]
    congr 1
    cases hh:hurtS B[i]<;>simp [Option.toList,hh]
   rw [hurtS_look hl] at hsucc
   simp only [ofNat_def,lt_len hi,if_true,hzi]
   erw [M.ret_bind]
   rw [M.ret_req]
   refine ⟨⟨by omega,by omega⟩,?_⟩
   rw [hlk,M.bind_pure]
   dsimp only
   cases hc:decide ((lookS B[i]).1≠0) with
   | true=>
    rw [hc] at hsucc
    rw [if_pos rfl]
    refine M.ret_pure.2 (M.ret_pure.2 ?_)
    simp only [add_def,hwc,hw]
    exact ⟨by rw [hsucc,if_pos rfl];omega,trivial,by omega,trivial,q3⟩
   | false=>
    rw [hc] at hsucc
    rw [if_neg (by decide)]
    refine M.ret_pure.2 (M.ret_pure.2 ?_)
    simp only [add_def,hwc,hw]
    exact ⟨by rw [hsucc,if_neg (by decide)];omega,trivial,by omega,trivial,q3⟩
  ·rintro ⟨s1,s2,s3,s4,m',u'⟩ ⟨e1,e2,e3,e4,k1⟩
   change s1=_ at e1
   change s2=_ at e2
   change s3=_ at e3
   change s4=out at e4
   subst e1 e2 e3 e4
   dsimp only
   rw [if_neg (by simp),M.bind_pure]
   refine M.ret_pure.2 ?_
   show M.Ret (M.pure _) _
   rw [List.take_length]
   exact M.ret_pure.2 (by rw [ofNat_def,hol])
def joinS:List (List (List UInt8))→List (List (List UInt8))→List (List (List UInt8))→Int×List (List (List UInt8))
 | x::X,y::Y,o=>
  if lostS x=true∧lostS y=true then (141,[])
  else if lostS x=true then joinS X Y (o++[fixS y])
  else if lostS y=false∧textS (fixS x)≠textS (fixS y) then (143,[])
  else joinS X Y (o++[fixS x])
 | _,_,o=>(0,o)
theorem joinS_cons (x y:List (List UInt8)) (X Y o):joinS (x::X) (y::Y) o=if lostS x=true∧lostS y=true then (141,[])
  else if lostS x=true then joinS X Y (o++[fixS y])
  else if lostS y=false∧textS (fixS x)≠textS (fixS y) then (143,[])
  else joinS X Y (o++[fixS x]):=by rw [joinS]
def joinV (a b:List UInt8):List (List UInt8)×Int:=
 if (blocksV a).1=false∨(blocksV b).1=false∨(blocksV a).2.length≠(blocksV b).2.length then ([],140)
 else if (joinS (blocksV a).2 (blocksV b).2 []).1≠0 then ([],(joinS (blocksV a).2 (blocksV b).2 []).1)
 else if (textsV (joinS (blocksV a).2 (blocksV b).2 []).2).2=false then ([],142)
 else ((textsV (joinS (blocksV a).2 (blocksV b).2 []).2).1,0)
abbrev fcJoin:FC:=⟨.prod .str .str,.prod (.slice .str) (.int .i64),fun x=>List.length x.1<65536∧List.length x.2<65536,fun x=>joinV x.1 x.2⟩
theorem PoolB.append {m1 m2:Pool} {out1 out2 O1 O2} (h1:PoolB m1 out1 O1) (h2:PoolB m2 out2 O2) (hk:Kept m1 m2 out2):PoolB m2 (out1++out2) (O1++O2):=by
 have hkey:∀ b∈out1,∀ k∈b,k.1∈m1.map (·.1):=fun b hb k hk=>(h1.ok b hb k hk).key
 refine ⟨h2.nd,fun b hb k hk'=>?_,?_,?_⟩
 ·rcases List.mem_append.1 hb with hb | hb
  ·obtain ⟨k1,k2,k3⟩:=h1.ok b hb k hk'
   obtain ⟨o1,o2⟩:=hk.old k.1 (hkey b hb k hk')
   exact ⟨any_key.2 o2,k2,by rw [o1];exact k3⟩
  ·exact h2.ok b hb k hk'
 ·rw [List.flatten_append,List.map_append,List.nodup_append]
  refine ⟨h1.ids,h2.ids,fun a ha c hc=>?_⟩
  intro e
  subst e
  obtain ⟨k,hk',e⟩:=List.mem_map.1 ha
  obtain ⟨b,hb,hkb⟩:=List.mem_flatten.1 hk'
  exact hk.new a hc (by rw [←e];exact hkey b hb k hkb)
 ·rw [List.map_append,List.map_append,←h1.dat,←h2.dat]
  congr 1
  refine List.map_congr_left fun b hb=>?_
  unfold rowsH
  exact List.map_congr_left fun k hk'=>(hk.old k.1 (hkey b hb k hk')).1
theorem map_eq_map {α β γ:Type} (f:α→γ) (g:β→γ) (F:List α) (o:List β) (da:α) (db:β) (hl:F.length=o.length) (h:∀ k,k<F.length→f (F.getD k da)=g (o.getD k db)):F.map f=o.map g:=by
 refine List.ext_getElem (by simp;omega) fun k h1 h2=>?_
 have hkF:k<F.length:=by simpa using h1
 have hko:k<o.length:=by omega
 have eF:F[k]=F.getD k da:=by rw [List.getD_eq_getElem?_getD,List.getElem?_eq_getElem hkF];rfl
 have eo:o[k]=o.getD k db:=by rw [List.getD_eq_getElem?_getD,List.getElem?_eq_getElem hko];rfl
 rw [List.getElem_map,List.getElem_map,eF,eo,h k hkF]
theorem sJoin (x):M.le (S_files_Join shCut shLook fcText.pre fcText.g fcUnpack.pre fcUnpack.g x) (fcJoin.sh x):=M.le_detR fun h=>by
 obtain ⟨fa,fb⟩:=x
 obtain ⟨ha,hb⟩:=h
 change List.length fa<65536 at ha
 change List.length fb<65536 at hb
 unfold S_files_Join
 show M.Ret _ fun y=>y=joinV fa fb
 unfold joinV
 rw [M.ret_bind]
 refine ⟨⟨ha,by simp⟩,?_⟩
 rintro ⟨oka,out1,m1,u1⟩ ⟨a1,a2,a3⟩
 change oka=(blocksV fa).1 at a1
 change PoolB m1 out1 (if (blocksV fa).1=true then (blocksV fa).2 else []) at a2
 rw [M.ret_bind]
 refine ⟨⟨hb,a2.nd⟩,?_⟩
 rintro ⟨okb,out2,m2,u2⟩ ⟨b1,b2,b3⟩
 change okb=(blocksV fb).1 at b1
 change PoolB m2 out2 (if (blocksV fb).1=true then (blocksV fb).2 else []) at b2
 change Kept m1 m2 out2 at b3
 subst a1 b1
 have hal:=(blocksV_out fa).2
 have hbl:=(blocksV_out fb).2
 have hsa:=blocks_shaped fa
 have hsb:=blocks_shaped fb
 dsimp only
 cases hA:(blocksV fa).1 with
 | false=>
  rw [if_pos (show (!false||!(blocksV fb).1||decide (Int.ofNat out1.length≠Int.ofNat out2.length))=true from rfl)]
  exact M.ret_pure.2 (if_pos (.inl rfl)).symm
 | true=>
 cases hB:(blocksV fb).1 with
 | false=>
  rw [if_pos (show (!true||!false||decide (Int.ofNat out1.length≠Int.ofNat out2.length))=true from rfl)]
  exact M.ret_pure.2 (if_pos (.inr (.inl rfl))).symm
 | true=>
 rw [hA,if_pos rfl] at a2
 rw [hB,if_pos rfl] at b2
 generalize (blocksV fa).2=A at a2 hal hsa
 generalize (blocksV fb).2=B at b2 hbl hsb
 have hol1:=a2.len
 have hol2:=b2.len
 have hP:=a2.append b2 b3
 by_cases hl:A.length=B.length
 ·have hd:decide (Int.ofNat out1.length≠Int.ofNat out2.length)=false:=decide_eq_false (by simp only [ofNat_def];omega)
  rw [hd,if_neg (show ¬(!true||!true||false)=true by decide),if_neg (by rintro (k | k | k);cases k;cases k;exact k hl),M.ret_bind]
  refine M.ret_loopN A.length (fun i s=>s.1=(A.length:Int)∧s.2.1=(i:Int)∧s.2.2.2.1=out2∧s.2.2.1.length=A.length∧PoolB s.2.2.2.2.1 (out1++out2) (mix fixS A i++mix fixS B i)∧(∀ k,i≤k→s.2.2.1.getD k []=out1.getD k [])∧
   ∃ o,o.length=i∧joinS (A.drop i) (B.drop i) o=joinS A B []∧∀ k,k<i→(s.2.2.1.getD k []=out1.getD k []∧o.getD k []=fixS (A.getD k []))∨(s.2.2.1.getD k []=out2.getD k []∧o.getD k []=fixS (B.getD k []))) ⟨by rw [ofNat_def,hol1],rfl,rfl,hol1,hP,fun k _=>rfl,[],rfl,rfl,fun k hk=>absurd hk (Nat.not_lt_zero k)⟩ ?_ ?_
  ·rintro i hi ⟨s1,s2,F,s4,m',u'⟩ ⟨e1,e2,e3,e4,k1,k2,o,o1,o2,o3⟩
   change s1=_ at e1
   change s2=_ at e2
   change s4=out2 at e3
   change F.length=_ at e4
   change PoolB m' (out1++out2) _ at k1
   change ∀ k,i≤k→F.getD k []=_ at k2
   change ∀ k,k<i→(F.getD k []=_∧_)∨(F.getD k []=_∧_) at o3
   subst e1 e2 e3
   have hiB:i<B.length:=by omega
   have hw:=wrap64 (n:=(i:Int)+1) (by omega) (by omega)
   have hzi:((i:Int)).toNat=i:=rfl
   have hla:=hsa _ (List.getElem_mem hi)
   have hlb:=hsb _ (List.getElem_mem hiB)
   have hmA:(mix fixS A i).length=A.length:=by unfold mix;simp;omega
   have hmA2:(mix fixS A (i+1)).length=A.length:=by unfold mix;simp;omega
   have hmB:(mix fixS B i).length=B.length:=by unfold mix;simp;omega
   have g1:(out1++s4).getD i []=out1.getD i []:=by
    simp only [List.getD_eq_getElem?_getD]
    rw [List.getElem?_append_left (by omega)]
   have g2:(mix fixS A i++mix fixS B i).getD i []=A[i]:=by
    rw [←mix_get (f:=fixS) (d:=[]) hi]
    simp only [List.getD_eq_getElem?_getD]
    rw [List.getElem?_append_left (by omega)]
   obtain ⟨q1,q2,q3,_⟩:=k1.look (i:=i) (by simp;omega) (W:=wideL A[i]) (by rw [g2];exact hla)
   rw [g1,g2] at q2 q3
   rw [g1] at q1
   rw [List.set_append_left _ _ (by omega),mix_set hi] at q3
   have hlk1:shLook (out1.getD i [],m',())=M.pure ((lookS A[i]).1,(lookS A[i]).2,poolL (out1.getD i [],m',()),()):=by
    unfold shLook
    rw [q2]
    exact M.det_true q1 _
   generalize poolL (out1.getD i [],m',())=Q at q3 hlk1
   have g3:(out1++s4).getD (A.length+i) []=s4.getD i []:=by
    simp only [List.getD_eq_getElem?_getD]
    rw [List.getElem?_append_right (by omega)]
    congr 2
    omega
   have g4:(mix fixS A (i+1)++mix fixS B i).getD (A.length+i) []=B[i]:=by
    rw [←mix_get (f:=fixS) (d:=[]) hiB]
    simp only [List.getD_eq_getElem?_getD]
    rw [List.getElem?_append_right (by omega)]
    congr 2
    omega
   obtain ⟨r1,r2,r3,_⟩:=q3.look (i:=A.length+i) (by simp;omega) (W:=wideL B[i]) (by rw [g4];exact hlb)
   rw [g3,g4] at r2 r3
   rw [g3] at r1
   have hsub:A.length+i - (mix fixS A (i+1)).length=i:=by omega
   rw [List.set_append_right _ _ (by omega),hsub,mix_set hiB] at r3
   have hlk2:shLook (s4.getD i [],Q,())=M.pure ((lookS B[i]).1,(lookS B[i]).2,poolL (s4.getD i [],Q,()),()):=by
    unfold shLook
    rw [r2]
    exact M.det_true r1 _
   generalize poolL (s4.getD i [],Q,())=Q2 at r3 hlk2
   have hmg:∀ (B:List (List (List UInt8))) (hi:i<B.length),(mix fixS B (i+1)).getD i []=fixS B[i]:=fun B hi=>by
    rw [←mix_set hi,List.getD_eq_getElem?_getD,List.getElem?_set_self (by unfold mix;simp;omega)]
    rfl
   have hro1:rowsH Q2 (out1.getD i [])=numsB (fixS A[i]):=by
    have:=r3.row (i:=i) (by simp;omega)
    rw [g1] at this
    rw [this,←hmg A hi]
    simp only [List.getD_eq_getElem?_getD]
    rw [List.getElem?_append_left (by omega)]
   have hro2:rowsH Q2 (s4.getD i [])=numsB (fixS B[i]):=by
    have:=r3.row (i:=A.length+i) (by simp;omega)
    rw [g3] at this
    rw [this,←hmg B hiB]
    simp only [List.getD_eq_getElem?_getD]
    rw [List.getElem?_append_right (by omega)]
    congr 3
   have hok1:=r3.ok (out1.getD i []) (List.mem_append_left _ (getD_out (by omega)))
   have hok2:=r3.ok (s4.getD i []) (List.mem_append_right _ (getD_out (by omega)))
   obtain ⟨d1,d2⟩:=deref_rows hok1
   obtain ⟨d3,d4⟩:=deref_rows hok2
   rw [hro1] at d2
   rw [hro2] at d4
   have hpt:∀ l:List (List UInt8),shaped (wideL l) l→fcText.pre (numsB (fixS l)):=fun l hl=>⟨by show (numsB (fixS l)).length<65536;rw [List.length_map,fixS_len hl];have:=hl.2.1;omega,fun r hr=>((fixS_shaped hl).nums.row hr).2.1⟩
   have hgt:∀ l:List (List UInt8),bytesOf (textI (numsB (fixS l)))=textS (fixS l):=fun l=>by rw [←textS_nums,bytesOf_numsOf]
   have hF:=k2 i (Nat.le_refl _)
   have hdA:A.drop i=A[i]::A.drop (i+1):=List.drop_eq_getElem_cons hi
   have hdB:B.drop i=B[i]::B.drop (i+1):=List.drop_eq_getElem_cons hiB
   rw [hdA,hdB] at o2
   have hA':A.getD i []=A[i]:=by rw [List.getD_eq_getElem?_getD,List.getElem?_eq_getElem hi];rfl
   have hB':B.getD i []=B[i]:=by rw [List.getD_eq_getElem?_getD,List.getElem?_eq_getElem hiB];rfl
   have hog:∀ (v:List (List UInt8)) k,(o++[v]).getD k []=if k<i then o.getD k [] else if k=i then v else []:=fun v k=>by
    simp only [List.getD_eq_getElem?_getD]
    by_cases c:k<i
    ·rw [if_pos c,List.getElem?_append_left (by omega)]
    ·rw [if_neg c,List.getElem?_append_right (by omega)]
     by_cases c2:k=i
     ·subst c2
      rw [if_pos rfl,o1,Nat.sub_self]
      rfl
     ·rw [if_neg c2]
      have:k - o.length≠0:=by omega
      cases hk:k - o.length with
      | zero=>omega
      | succ n=>rfl
   simp only [ofNat_def,lt_len hi,if_true,hzi]
   erw [M.ret_bind]
   rw [M.ret_req]
   refine ⟨⟨by omega,by omega⟩,?_⟩
   rw [hF]
   erw [hlk1]
   rw [M.bind_pure]
   dsimp only
   rw [M.ret_req]
   refine ⟨⟨by omega,by omega⟩,?_⟩
   erw [hlk2]
   rw [M.bind_pure]
   dsimp only
   rw [joinS_cons] at o2
   by_cases c1:(lookS A[i]).1=2
   ·have l1:lostS A[i]=true:=decide_eq_true c1
    by_cases c2:(lookS B[i]).1=2
    ·have l2:lostS B[i]=true:=decide_eq_true c2
     rw [if_pos ⟨l1,l2⟩] at o2
     rw [if_pos (by rw [c1,c2];rfl),M.bind_pure,M.bind_pure,M.bind_pure]
     refine M.ret_pure.2 (M.ret_pure.2 ?_)
     show M.Ret (M.pure (([],141):List (List UInt8)×Int)) _
     refine M.ret_pure.2 ?_
     rw [←o2,if_pos (by decide)]
    ·have l2:¬lostS B[i]=true:=fun k=>c2 (of_decide_eq_true k)
     rw [if_neg (fun k=>l2 k.2),if_pos l1] at o2
     rw [if_neg (by rw [c1,decide_eq_false c2];decide),if_pos (decide_eq_true c1),M.ret_req]
     refine ⟨⟨by omega,by omega⟩,?_⟩
     rw [M.ret_req]
     refine ⟨⟨by omega,by omega⟩,M.ret_pure.2 (M.ret_pure.2 ?_)⟩
     simp only [add_def,hw]
     refine ⟨trivial,by omega,trivial,by rw [List.length_set];exact e4,r3,fun k hk=>?_,o++[fixS B[i]],by simp;omega,o2,fun k hk=>?_⟩
     ·have:i≠k:=by omega
      rw [List.getD_eq_getElem?_getD,List.getElem?_set_ne this,←List.getD_eq_getElem?_getD]
      exact k2 k (by omega)
     ·rw [hog]
      by_cases e:k=i
      ·subst e
       rw [if_neg (by omega),if_pos rfl,hB']
       right
       refine ⟨?_,rfl⟩
       rw [List.getD_eq_getElem?_getD,List.getElem?_set_self (by omega)]
       rfl
      ·rw [if_pos (by omega),List.getD_eq_getElem?_getD,List.getElem?_set_ne (fun k'=>e k'.symm),←List.getD_eq_getElem?_getD]
       exact o3 k (by omega)
   ·have l1:¬lostS A[i]=true:=fun k=>c1 (of_decide_eq_true k)
    rw [if_neg (fun k=>l1 k.1),if_neg l1] at o2
    have dd:decide ((lookS A[i]).1=2)=false:=decide_eq_false c1
    rw [if_neg (by rw [dd];exact Bool.false_ne_true),if_neg (by rw [dd];exact Bool.false_ne_true)]
    rw [M.req_true (fun e=>⟨⟨e,trivial⟩,⟨d1,by rw [d2];exact hpt _ hla⟩,trivial⟩),M.req_true (fun e=>⟨⟨e,e⟩,⟨by omega,by omega⟩,trivial⟩),M.req_true (fun e=>⟨e,trivial,trivial⟩),M.req_true (fun e=>⟨⟨e,trivial⟩,⟨d3,by rw [d4];exact hpt _ hlb⟩,trivial⟩),M.req_true (fun e=>⟨⟨e,e⟩,trivial,trivial⟩),M.req_true ⟨trivial,fun e=>e⟩,d2,d4,hgt,hgt]
    by_cases c3:lostS B[i]=false∧textS (fixS A[i])≠textS (fixS B[i])
    ·rw [if_pos c3] at o2
     have d5:decide ((lookS B[i]).1≠2)=true:=decide_eq_true fun k=>by
      have:lostS B[i]=true:=decide_eq_true k
      rw [c3.1] at this
      cases this
     rw [if_pos (by rw [d5,decide_eq_true c3.2];rfl),M.bind_pure,M.bind_pure,M.bind_pure]
     refine M.ret_pure.2 (M.ret_pure.2 ?_)
     show M.Ret (M.pure (([],143):List (List UInt8)×Int)) _
     refine M.ret_pure.2 ?_
     rw [←o2,if_pos (by decide)]
    ·rw [if_neg c3] at o2
     have d5:¬(decide ((lookS B[i]).1≠2)&&decide (textS (fixS A[i])≠textS (fixS B[i])))=true:=fun k=>by
      rw [Bool.and_eq_true,decide_eq_true_iff,decide_eq_true_iff] at k
      exact c3 ⟨decide_eq_false k.1,k.2⟩
     rw [if_neg d5]
     refine M.ret_pure.2 (M.ret_pure.2 ?_)
     simp only [add_def,hw]
     refine ⟨trivial,by omega,trivial,e4,r3,fun k hk=>k2 k (by omega),o++[fixS A[i]],by simp;omega,o2,fun k hk=>?_⟩
     rw [hog]
     by_cases e:k=i
     ·subst e
      rw [if_neg (by omega),if_pos rfl,hA']
      exact .inl ⟨hF,rfl⟩
     ·rw [if_pos (by omega)]
      exact o3 k (by omega)
  ·rintro ⟨s1,s2,F,s4,m',u'⟩ ⟨e1,e2,e3,e4,k1,k2,o,o1,o2,o3⟩
   change s1=_ at e1
   change s2=_ at e2
   change s4=out2 at e3
   change F.length=_ at e4
   change PoolB m' (out1++out2) _ at k1
   change ∀ k,k<_→(F.getD k []=_∧_)∨(F.getD k []=_∧_) at o3
   subst e1 e2 e3
   rw [mix_all,hl,mix_all] at k1
   have ho2:joinS A B []=(0,o):=by
    rw [←o2,List.drop_length]
    rfl
   dsimp only
   rw [if_neg (by simp),M.bind_pure]
   refine M.ret_pure.2 ?_
   show M.Ret (M.req _ _) _
   have hFr:∀ k,k<A.length→(∀ h∈F.getD k [],hOk m' h)∧rowsH m' (F.getD k [])=numsB (o.getD k [])∧shaped (wideL (o.getD k [])) (o.getD k []):=fun k hk=>by
    have hA':A.getD k []=A[k]:=by rw [List.getD_eq_getElem?_getD,List.getElem?_eq_getElem hk];rfl
    have hkB:k<B.length:=by omega
    have hB':B.getD k []=B[k]:=by rw [List.getD_eq_getElem?_getD,List.getElem?_eq_getElem hkB];rfl
    rcases o3 k hk with ⟨f1,f2⟩ | ⟨f1,f2⟩
    ·rw [f1,f2,hA']
     have g1:(out1++s4).getD k []=out1.getD k []:=by
      simp only [List.getD_eq_getElem?_getD]
      rw [List.getElem?_append_left (by omega)]
     have hr:=k1.row (i:=k) (by simp;omega)
     rw [g1] at hr
     refine ⟨k1.ok _ (List.mem_append_left _ (getD_out (by omega))),?_,?_⟩
     ·rw [hr]
      congr 1
      simp only [List.getD_eq_getElem?_getD]
      rw [List.getElem?_append_left (by simp;omega),List.getElem?_map,List.getElem?_eq_getElem hk]
      rfl
     ·have:=fixS_shaped (hsa _ (List.getElem_mem hk))
      rw [this.wide];exact this
    ·rw [f1,f2,hB']
     have g1:(out1++s4).getD (A.length+k) []=s4.getD k []:=by
      simp only [List.getD_eq_getElem?_getD]
      rw [List.getElem?_append_right (by omega)]
      congr 2
      omega
     have hr:=k1.row (i:=A.length+k) (by simp;omega)
     rw [g1] at hr
     refine ⟨k1.ok _ (List.mem_append_right _ (getD_out (by omega))),?_,?_⟩
     ·rw [hr]
      congr 1
      simp only [List.getD_eq_getElem?_getD]
      rw [List.getElem?_append_right (by simp),List.length_map,Nat.add_sub_cancel_left,List.getElem?_map,List.getElem?_eq_getElem hkB]
      rfl
     ·have:=fixS_shaped (hsb _ (List.getElem_mem hkB))
      rw [this.wide];exact this
   have hmem:∀ b∈F,∃ k,k<A.length∧F.getD k []=b:=fun b hb=>by
    obtain ⟨k,hk,rfl⟩:=List.mem_iff_getElem.1 hb
    exact ⟨k,by omega,by rw [List.getD_eq_getElem?_getD,List.getElem?_eq_getElem hk];rfl⟩
   have d1:RawOk (.int .u8) m' (.slice (.slice (.raws (.int .u8)))) F:=fun b hb=>by
    obtain ⟨k,hk,rfl⟩:=hmem b hb
    exact (deref_rows (hFr k hk).1).1
   have d2:deref (.int .u8) m' (.slice (.slice (.raws (.int .u8)))) F=o.map numsB:=by
    show F.map (deref (.int .u8) m' (.slice (.raws (.int .u8))))=_
    exact map_eq_map (γ:=List (List Int)) _ _ F o [] [] (by omega) fun k hk=>by
     have hk:k<A.length:=by omega
     exact (deref_rows (hFr k hk).1).2.trans (hFr k hk).2.1
   have hshF:∀ l∈o,shaped (wideL l) l:=fun l hl=>by
    obtain ⟨k,hk,rfl⟩:=List.mem_iff_getElem.1 hl
    have:=(hFr k (by omega)).2.2
    rw [List.getD_eq_getElem?_getD,List.getElem?_eq_getElem hk] at this
    exact this
   have hpu:fcUnpack.pre (o.map numsB):=⟨by show (o.map numsB).length<65536;simp;omega,fun l hl=>by
    obtain ⟨b,hb,rfl⟩:=List.mem_map.1 hl
    have:=(hshF b hb).nums
    rw [this.wide]
    exact this⟩
   have hgu:unpackS ((o.map numsB).map (List.map bytesOf))=unpackS o:=by
    rw [List.map_map]
    have:o.map (List.map bytesOf ∘ numsB)=o.map id:=List.map_congr_left fun l _=>bytes_nums l
    rw [this,List.map_id]
   obtain ⟨u1,u2⟩:=unpackS_eq hshF
   dsimp only
   rw [M.ret_req]
   refine ⟨⟨d1,by rw [d2];exact hpu⟩,?_⟩
   rw [d2]
   simp only [hgu,u1]
   have hv:(if (joinS A B []).1≠0 then (([],(joinS A B []).1):List (List UInt8)×Int) else if (textsV (joinS A B []).2).2=false then ([],142) else ((textsV (joinS A B []).2).1,0))=if (textsV o).2=false then ([],142) else ((textsV o).1,0):=by
    rw [ho2]
    exact if_neg fun k=>k rfl
   rw [hv]
   cases ht:(textsV o).2 with
   | false=>exact M.ret_pure.2 rfl
   | true=>
    rw [if_neg (show ¬(!true)=true by decide),u2 ht]
    exact M.ret_pure.2 rfl
 ·have hd:decide (Int.ofNat out1.length≠Int.ofNat out2.length)=true:=decide_eq_true (by simp only [ofNat_def];omega)
  rw [hd,if_pos (show (!true||!true||true)=true by decide),if_pos (.inr (.inr hl))]
  exact M.ret_pure.2 rfl
end Go.Fer
namespace Go.Fer
open M (Step)
set_option linter.unusedVariables false
set_option linter.unusedSimpArgs false
theorem set_split {r:List UInt8} {j:Nat} (h:j<r.length) (b:UInt8):List.take j r++[b]++List.drop (j+1) r=r.set j b:=by
 rw [List.set_eq_take_append_cons_drop,if_pos h]
 simp
theorem numsOf_set (r:List UInt8) (j:Nat) (b:UInt8):numsOf (r.set j b)=(numsOf r).set j (b.toNat:Int):=by
 unfold numsOf
 rw [List.map_set]
theorem colBadI_congr {R R':List (List Int)} {c:Nat} (hl:R'.length=R.length) (h:∀ k,k<R.length→(R'.getD k []).getD c 0=(R.getD k []).getD c 0) (h0:0<R.length):colBadI R' c=colBadI R c:=by
 unfold colBadI
 rw [hl,h (R.length - 1) (by omega)]
 have e:colI (R'.take (R.length - 1)) (c:Int)=colI (R.take (R.length - 1)) (c:Int):=by
  unfold colI
  refine List.ext_getElem (by simp [hl]) fun k h1 h2=>?_
  have hk:k<R.length:=by simp at h2;omega
  have hk':k<R'.length:=by omega
  have hh:=h k hk
  have eR':R'.getD k []=R'[k]:=by rw [List.getD_eq_getElem?_getD,List.getElem?_eq_getElem hk'];rfl
  have eR:R.getD k []=R[k]:=by rw [List.getD_eq_getElem?_getD,List.getElem?_eq_getElem hk];rfl
  rw [eR',eR] at hh
  rw [List.getElem_map,List.getElem_map,List.getElem_take,List.getElem_take]
  exact hh
 rw [e]
end Go.Fer
namespace Go.Fer
open M (Step)
set_option linter.unusedVariables false
set_option linter.unusedSimpArgs false
theorem fixS_eq {l:List (List UInt8)} (h:shaped (wideL l) l) (hn:(lookS l).1≠1):fixS l=l:=fixS_whole (by
 have:wideI (numsB l)=wideL l:=h.nums.wide
 rw [this]
 exact hn)
theorem getD_B {B:List (List (List UInt8))} {i:Nat} (h:i<B.length):B.getD i []=B[i]:=by rw [List.getD_eq_getElem?_getD,List.getElem?_eq_getElem h];rfl
theorem placesV_get {B:List (List (List UInt8))} {i:Nat} (h:i<B.length):(placesV B).getD i 0=placeS (fromAt B i) B[i]:=by
 unfold placesV
 rw [List.getD_eq_getElem?_getD,List.getElem?_map,List.getElem?_range h,←getD_B h]
 rfl
end Go.Fer
namespace Go.Fer
open M (Step)
set_option linter.unusedVariables false
set_option linter.unusedSimpArgs false
set_option maxRecDepth 100000
theorem ex_write:writeV [[97,98],[99]]=([34,97,98,70,10,33,99,32,100,10,35,69,98,43,10,10],0):=by decide +kernel
theorem ex_read:readV [34,97,120,70,10,33,99,32,100,10,35,69,98,43,10,10]=([[97,98],[99]],[2],0):=by decide +kernel
theorem ex_check:checkFV [34,97,120,70,10,33,120,32,100,10,35,69,98,43,10,10]=(1,1,0):=by decide +kernel
abbrev fcWorks:FC:=⟨.unit,.bool,fun _=>True,fun _=>true⟩
theorem sWorks (x):M.le (S_law14_works fcWriteP.sh fcReadF.sh fcDamage.sh fcCheckF.sh fcSameT.sh fcSameI.sh x) (fcWorks.sh x):=M.le_det fun _=>by
 unfold S_law14_works
 have hr:readL [34,97,120,70,10,33,99,32,100,10,35,69,98,43,10,10]=([[97,98],[99]],[0],0):=by
  unfold readL
  rw [ex_read]
  rfl
 have w:fcWriteP.sh [[97,98],[99]]=M.pure ([34,97,98,70,10,33,99,32,100,10,35,69,98,43,10,10],0):=(M.det_true (show ([[97,98],[99]]:List (List UInt8)).length<2 ^ 63 by decide) _).trans (congrArg M.pure ex_write)
 have r:fcReadF.sh [34,97,120,70,10,33,99,32,100,10,35,69,98,43,10,10]=M.pure ([[97,98],[99]],[0],0):=(M.det_true (show ([34,97,120,70,10,33,99,32,100,10,35,69,98,43,10,10]:List UInt8).length<65536 by decide) _).trans (congrArg M.pure hr)
 have d:fcDamage.sh [34,97,120,70,10,33,99,32,100,10,35,69,98,43,10,10]=M.pure ([2],0):=(M.det_true (show ([34,97,120,70,10,33,99,32,100,10,35,69,98,43,10,10]:List UInt8).length<65536 by decide) _).trans (congrArg M.pure (congrArg (·.2) ex_read))
 have c:fcCheckF.sh [34,97,120,70,10,33,120,32,100,10,35,69,98,43,10,10]=M.pure (1,1,0):=(M.det_true (show ([34,97,120,70,10,33,120,32,100,10,35,69,98,43,10,10]:List UInt8).length<65536 by decide) _).trans (congrArg M.pure ex_check)
 have st:fcSameT.sh ([[97,98],[99]],[[97,98],[99]])=M.pure true:=M.det_true (show ([[97,98],[99]]:List (List UInt8)).length<2 ^ 63∧([[97,98],[99]]:List (List UInt8)).length<2 ^ 63 from ⟨by decide,by decide⟩) _
 have si:∀ l:List Int,l.length<2 ^ 63→fcSameI.sh (l,l)=M.pure true:=fun l hl=>(M.det_true (show l.length<2 ^ 63∧l.length<2 ^ 63 from ⟨hl,hl⟩) _).trans (congrArg M.pure (decide_eq_true rfl))
 rw [w,M.bind_pure,r,M.bind_pure,d,M.bind_pure,c,M.bind_pure]
 dsimp only
 rw [st,M.gdo_pure,M.bind_pure,si _ (by decide),M.gdo_pure,M.bind_pure,si _ (by decide),M.gdo_pure,M.bind_pure]
 rfl
theorem works_sh:fcWorks.sh ()=M.pure true:=M.det_true trivial _
theorem sameT_sh {a b:List (List UInt8)} (ha:a.length<2 ^ 63) (hb:b.length<2 ^ 63):fcSameT.sh (a,b)=M.pure (decide (a=b)):=M.det_true (show a.length<2 ^ 63∧b.length<2 ^ 63 from ⟨ha,hb⟩) _
end Go.Fer
namespace Go.Fer
open M (Step)
set_option linter.unusedVariables false
set_option linter.unusedSimpArgs false
theorem sChunkIO (l0:Nat) (s:List (List UInt8)) (hs:s.length<65536):M.Ret (S_io_chunk (l0,s,8,(l0,chunkS (some s,some 8),[],false),())) fun y=>y.1.2.2.2=false→chunkS (some s,some 8) y.1.2.2.1:=by
 have hS:∀ L,chunkS (some s,some 8) L↔L=chunks s:=fun L=>⟨fun ⟨l,e,_,h⟩=>by cases e;exact h,fun e=>⟨s,rfl,hs,e⟩⟩
 generalize chunkS (some s,some 8)=S at *
 unfold S_io_chunk
 dsimp only
 refine M.ret_loop (fun σ=>∃ k:Nat,k≤(chunks s).length∧σ=(l0,s,8,((8*k:Nat):Int),(l0,S,(chunks s).take k,false),())) (fun σ=>(s.length+8 - σ.2.2.2.1.toNat)) ?_ _ ⟨0,Nat.zero_le _,rfl⟩
 rintro σ ⟨k,hk,rfl⟩
 dsimp only
 by_cases hk8:8*k<s.length
 ·have hkc:=chunks_lt.2 hk8
  have hd:decide (((8*k:Nat):Int)<(s.length:Int))=true:=decide_eq_true (by omega)
  have hz:∀ n:Nat,((n:Int)).toNat=n:=fun _=>rfl
  have hdl:(List.drop (8*k) s).length=s.length - 8*k:=List.length_drop ..
  have hm:(if (((List.drop (8*k) s).length:Nat):Int)<8 then (((List.drop (8*k) s).length:Nat):Int) else 8)=((min 8 (s.length - 8*k):Nat):Int):=by rw [hdl];split<;>omega
  have hw:=wrap64 (n:=((8*k:Nat):Int)+((min 8 (s.length - 8*k):Nat):Int)) (by omega) (by omega)
  have hw2:=wrap64 (n:=((8*k:Nat):Int)+8) (by omega) (by omega)
  have ez:(((8*k:Nat):Int)+((min 8 (s.length - 8*k):Nat):Int)).toNat=8*k+min 8 (s.length - 8*k):=by omega
  have hc:List.drop (8*k) (List.take (8*k+min 8 (s.length - 8*k)) s)=(chunks s)[k]:=by
   rw [chunks_get hkc,List.drop_take]
   have:8*k+min 8 (s.length - 8*k) - 8*k=min 8 (s.length - 8*k):=by omega
   rw [this]
   rcases Nat.lt_or_ge 8 (s.length - 8*k) with h | h
   ·rw [Nat.min_eq_left (by omega)]
   ·rw [Nat.min_eq_right h,List.take_of_length_le (by rw [hdl];exact Nat.le_refl _),List.take_of_length_le (by rw [hdl];exact h)]
  simp only [ofNat_def,hd,if_true,hz,List.take_length,hm,add_def,hw,hw2,ez,hc]
  rw [M.ret_req]
  refine ⟨⟨by omega,by omega,Int.le_refl _⟩,?_⟩
  rw [M.ret_req]
  refine ⟨⟨by omega,by omega,trivial,by omega⟩,?_⟩
  rw [M.ret_bind,M.ret_req]
  refine ⟨⟨trivial,trivial,(chunks s).drop (k+1),(hS _).2 ?_⟩,⟨true,trivial⟩,fun y _=>?_⟩
  ·rw [←List.drop_eq_getElem_cons hkc,List.take_append_drop]
  ·cases y with
   | false=>
    simp only [Bool.not_false,if_true,M.bind_pure]
    exact M.ret_pure.2 fun h=>by cases h
   | true=>
    simp only [Bool.not_true,Bool.false_eq_true,if_false]
    refine M.ret_pure.2 ⟨⟨k+1,hkc,?_⟩,?_⟩
    ·rw [List.take_add_one,List.getElem?_eq_getElem hkc,show ((8*(k+1):Nat):Int)=((8*k:Nat):Int)+8 by omega]
     rfl
    ·show s.length+8 - (((8*k:Nat):Int)+8).toNat<s.length+8 - (((8*k:Nat):Int)).toNat
     omega
 ·have hd:decide (((8*k:Nat):Int)<(s.length:Int))=false:=decide_eq_false (by omega)
  simp only [ofNat_def,hd,Bool.false_eq_true,if_false,M.bind_pure]
  refine M.ret_pure.2 fun _=>(hS _).2 ?_
  refine List.take_of_length_le ?_
  rcases Nat.lt_or_ge k (chunks s).length with h | h
  ·exact absurd (chunks_lt.1 h) hk8
  ·exact h
end Go.Fer
namespace Go.Fer
open M (Step)
set_option linter.unusedVariables false
def S_io_colf (x:List (List Int)×Int×Int×Unit):M (List Int×Unit):=
 M.bind (M.req ((0:Int)≤0∧0≤IntKind.wrap .i64 (Int.ofNat (List.length x.1) - x.2.2.1)∧IntKind.wrap .i64 (Int.ofNat (List.length x.1) -
 x.2.2.1)≤Int.ofNat (List.length x.1)) (M.loop (fun (σ:Int×List (List Int)×Int×Int×List Int×Unit)=>if decide (σ.2.2.2.1<σ.2.2.1)=
 true then M.req (0≤σ.2.2.2.1∧σ.2.2.2.1<Int.ofNat (List.length σ.2.1)) (M.req (0≤σ.1∧σ.1<Int.ofNat (List.length (List.getD σ.2.1
 (Int.toNat σ.2.2.2.1) []))) (M.req (lenLe (Add.add (List.length σ.2.2.2.2.1) (Add.add 0 1))) (M.pure (Step.next (σ.1,σ.2.1,σ.2.2.1,IntKind.wrap
 .i64 (Add.add σ.2.2.2.1 1),σ.2.2.2.2.1++[List.getD (List.getD σ.2.1 (Int.toNat σ.2.2.2.1) []) (Int.toNat σ.1) 0],()))))) else M.bind (M.pure
 (Step.next (σ.2.2.2.2.1,()))) fun r=>M.pure (Step.done r)) (x.2.1,List.take (Int.toNat (IntKind.wrap .i64 (Int.ofNat (List.length x.1) -
 x.2.2.1))) x.1,Int.ofNat (List.length (List.take (Int.toNat (IntKind.wrap .i64 (Int.ofNat (List.length x.1) - x.2.2.1))) x.1)),0,[],())))
 (Step.go fun (σ:List Int×Unit)=>M.pure (σ.1,()))
end Go.Fer
namespace Go.Fer
open M (Step)
set_option linter.unusedVariables false
set_option linter.unusedSimpArgs false
def shColF (x:List (List Int)×Int×Int×Unit):M (List Int×Unit):=M.det (preCol x.1 x.2.1 x.2.2.1) (colI (x.1.take (x.1.length - x.2.2.1.toNat)) x.2.1,())
theorem sColF (x):M.le (S_io_colf x) (shColF x):=M.le_det fun h=>by
 obtain ⟨l,c,w,u⟩:=x
 obtain ⟨h1,⟨h2,h3⟩,h4,h5⟩:preCol l c w:=h
 unfold S_io_colf
 dsimp only
 have hw:=wrap64 (n:=(l.length:Int) - w) (by omega) (by omega)
 simp only [ofNat_def,hw]
 have e:((l.length:Int) - w).toNat=l.length - w.toNat:=by omega
 rw [M.req_true ⟨Int.le_refl _,by omega,by omega⟩,e]
 generalize hk:l.take (l.length - w.toNat)=k
 have hkl:k.length<65536:=by rw [←hk];simp;omega
 have hkr:∀ r∈k,c<(r.length:Int):=fun r hr=>h5 r (by rw [←hk] at hr;exact List.mem_of_mem_take hr)
 rw [M.loop_list k (fun i (o:List Int)=>(c,k,(k.length:Int),(i:Int),o,())) (fun r o=>.next (o++[r.getD c.toNat 0])) (fun o=>.next (o,())) (fun i o=>o.length=i) [] ?_ ?_ ?_ ?_]
 ·rw [foldS_next,M.bind_pure,M.go_next]
  dsimp only
  rw [show k.foldl (fun o r=>o++[r.getD c.toNat 0]) []=colI k c from by rw [foldl_map_app];rfl]
 ·rfl
 ·rfl
 ·intro i hi o ho
  have hw2:=wrap64 (n:=(i:Int)+1) (by omega) (by omega)
  have hr:=hkr _ (List.getElem_mem hi)
  refine ⟨?_,fun o' ho'=>?_⟩
  ·simp only [ofNat_def,lt_len hi,if_true,getD_nat hi,in_len hi,M.req_True,add_def,add_defN,hw2]
   rw [M.req_true ⟨h4,hr⟩,M.req_true (by unfold lenLe;omega)]
   rfl
  ·simp only [Step.next.injEq] at ho'
   subst ho'
   simp [ho]
 ·intro o ho
  simp
end Go.Fer
namespace Go.Fer
open Go
theorem cut2_index:∀ s:List UInt8,(cut2 s=none∧Lib.index s [10,10]=-1)∨∃ t r,cut2 s=some (t,r)∧Lib.index s [10,10]=(t.length:Int)∧s=t++10::10::r
 | []=>.inl ⟨rfl,rfl⟩
 | b::l=>by
  unfold cut2 Lib.index
  by_cases hc:b=10∧l.head?=some 10
  ·obtain ⟨rfl,hl⟩:=hc
   cases l with
   | nil=>cases hl
   | cons c l=>
    simp only [List.head?_cons,Option.some.injEq] at hl
    subst hl
    exact .inr ⟨[],l,by simp,by simp,rfl⟩
  ·have hp:List.isPrefixOf [10,10] (b::l)=false:=by
    cases hq:List.isPrefixOf [10,10] (b::l) with
    | false=>rfl
    | true=>
     cases l with
     | nil=>simp [List.isPrefixOf] at hq
     | cons c l=>
      simp [List.isPrefixOf] at hq
      exact absurd ⟨hq.1.symm,by rw [←hq.2];rfl⟩ hc
   rw [if_neg hc,hp]
   rcases cut2_index l with ⟨h1,h2⟩ | ⟨t,r,h1,h2,h3⟩
   ·rw [h1,h2]
    exact .inl ⟨rfl,rfl⟩
   ·rw [h1,h2]
    refine .inr ⟨b::t,r,rfl,?_,by rw [h3];rfl⟩
    have:((t.length:Int) == -1)=false:=by rw [beq_eq_false_iff_ne];omega
    rw [this]
    simp
theorem cut_eq (s:List UInt8):Lib.cut s [10,10]=match cut2 s with | some p=>(p.1,p.2,true) | none=>(s,[],false):=by
 unfold Lib.cut
 rcases cut2_index s with ⟨h1,h2⟩ | ⟨t,r,h1,h2,h3⟩
 ·rw [h1,h2]
  rfl
 ·rw [h1,h2,if_pos (by omega)]
  have e:((t.length:Int)).toNat=t.length:=rfl
  rw [e,h3]
  simp
theorem lines_index:∀ s:List UInt8,(Lib.index s [10]=-1∧linesOf s=[s])∨∃ t r,s=t++10::r∧Lib.index s [10]=(t.length:Int)∧linesOf s=t::linesOf r
 | []=>.inl ⟨rfl,rfl⟩
 | b::l=>by
  unfold Lib.index
  by_cases hb:b=10
  ·subst hb
   exact .inr ⟨[],l,rfl,by simp [List.isPrefixOf],linesOf_ten l⟩
  ·have hp:List.isPrefixOf [10] (b::l)=false:=by
    simp [List.isPrefixOf]
    exact fun k=>hb k.symm
   rw [hp]
   obtain ⟨x,xs,e1,e2⟩:=linesOf_cons hb l
   rcases lines_index l with ⟨h1,h2⟩ | ⟨t,r,h1,h2,h3⟩
   ·rw [h1]
    refine .inl ⟨rfl,?_⟩
    rw [e1] at h2
    cases h2
    exact e2
   ·rw [h2]
    refine .inr ⟨b::t,r,by rw [h1];rfl,?_,?_⟩
    ·have:((t.length:Int) == -1)=false:=by rw [beq_eq_false_iff_ne];omega
     rw [this]
     simp
    ·rw [e1] at h3
     cases h3
     exact e2
theorem splitK_lines:∀ (n:Nat) (s:List UInt8),s.length≤n→Lib.splitK [10] 0 (Lib.count s [10]) s=linesOf s:=by
 intro n
 induction n with
 | zero=>
  intro s h
  have:s=[]:=List.eq_nil_of_length_eq_zero (by omega)
  subst this
  rfl
 | succ n ih=>
  intro s h
  rcases lines_index s with ⟨h1,h2⟩ | ⟨t,r,h1,h2,h3⟩
  ·rw [Lib.count_miss h1,h2]
   rfl
  ·rw [Lib.count_hit (by simp) h2,h3,Nat.add_comm,Lib.splitK,h2]
   have:((t.length:Int) == -1)=false:=by rw [beq_eq_false_iff_ne];omega
   rw [this]
   have e:((t.length:Int)).toNat=t.length:=rfl
   have ed:s.drop (t.length+1)=r:=by rw [h1];simp
   have et:s.take t.length=t:=by rw [h1];simp
   simp only [Bool.false_eq_true,if_false,e,Nat.add_zero,List.length_cons,List.length_nil,Nat.zero_add,ed,et]
   rw [ih r (by rw [h1] at h;simp only [List.length_append,List.length_cons] at h;omega)]
theorem split_eq (s:List UInt8):Sk.splitV s [10]=linesOf s:=by
 unfold Sk.splitV
 rw [Lib.splitB_data]
 exact splitK_lines s.length s (Nat.le_refl _)
theorem rep_eq (s:List UInt8):∀ n,Lib.repeatL s n=repL s n
 | 0=>rfl
 | n+1=>by
  have:=rep_eq s n
  unfold repL at this ⊢
  rw [List.replicate_succ,List.flatten_cons,←this]
  rfl
namespace Sk
open Go.Proofs
set_option maxRecDepth 100000
theorem spec_k29:FnSpec Tryd.prog 29 t9 t4 fcIsT.sh:=spec_isText
theorem spec_k49:FnSpec Tryd.prog 49 (.prod t9 t9) (.prod t9 (.prod t9 t4)) fcCutP.sh:=spec_cut.weaken fun x=>M.le_det fun h=>by
 obtain ⟨s,sep⟩:=x
 obtain ⟨rfl,h2⟩:=h
 refine (M.det_true (show s.length<4294967281 from h2) _).trans (congrArg M.pure ?_)
 exact cut_eq s
theorem spec_k50:FnSpec Tryd.prog 50 (.prod t9 t9) t22 fcSplitP.sh:=spec_split.weaken fun x=>M.le_det fun h=>by
 obtain ⟨s,sep⟩:=x
 obtain ⟨rfl,h2⟩:=h
 refine (M.det_true (show s.length<4294967281∧1≤([10]:List UInt8).length from ⟨h2,by decide⟩) _).trans (congrArg M.pure ?_)
 exact split_eq s
theorem spec_k69:FnSpec Tryd.prog 69 (.prod t9 t3) t9 fcRep.sh:=spec_rep.weaken fun x=>M.le_det fun h=>by
 refine (M.det_true h _).trans (congrArg M.pure ?_)
 exact rep_eq _ _
abbrev t55r:Ty:=.raws t5
abbrev t63r:Ty:=.slice t55r
abbrev t59r:Ty:=.slice t63r
def tabR:List (Nat×Ty):=[(55,t55r),(63,t63r),(59,t59r)]++tab
theorem tabROk:TabOk Tryd.prog (tabT tabR):=tabT_ok (by kernel_rfl)
def b_cc67:Code:=Tryd.f67.body.getD .skip
theorem b_cc67_ok:Tryd.f67.body=some b_cc67:=by kernel_rfl
def ioc_ccheck:IOC:=⟨⟨[(0,.loc 100001 0)],[(100001,.cells t84 [.nos 100001,.own 100002]),(100002,.arr t5)]⟩,⟨[],[(100001,.cells t84 [.nos 100001,.own 100002]),(100002,.arr t5)]⟩,[],1,shCopyC⟩
theorem io_ccheck:IoSpec Tryd.prog noU 67 ioc_ccheck:=copy_io (n:=82) (ρ:=Tryd.lays105_ren) { Tryd.lays105 with } { Tryd.Builder_Extra_105 with } (by kernel_rfl) (callFunc_enter Tryd.func67 b_cc67_ok (by kernel_rfl))
end Sk
end Go.Fer
namespace Go.Fer
open M (Step)
set_option linter.unusedVariables false
set_option linter.unusedSimpArgs false
def badSpot (f:List UInt8) (l:List (Int×Int)) (i:Nat):Bool:=
 !(numberV f (l.getD i (0,0)).1).2||decide ((l.getD i (0,0)).2<32)||decide ((l.getD i (0,0)).2 > 126)||decide (((f.getD (l.getD i (0,0)).1.toNat 0).toNat:Int)=(l.getD i (0,0)).2)||(l.take i).any fun t=>decide (t.1=(l.getD i (0,0)).1)
def setF (n:List UInt8) (s:Int×Int):List UInt8:=n.set s.1.toNat (UInt8.ofNat s.2.toNat)
def changedV (f:List UInt8) (l:List (Int×Int)):List UInt8×List Int×Bool:=
 if (List.range l.length).any (badSpot f l)=true then ([],[],false) else (l.foldl setF f,l.map fun s=>(numberV f s.1).1,true)
theorem foldS_any_fold {α β ρ:Type} {p:α→Bool} {h:β→α→β} {r:ρ} {fin:β→ρ}:∀ (l:List α) (b:β),foldS (fun v b=>if p v=true then (.done r:Step β ρ) else .next (h b v)) fin l b=if l.any p=true then r else fin (l.foldl h b)
 | [],b=>by simp [foldS]
 | v::l,b=>by
  simp only [foldS,List.any_cons,List.foldl_cons]
  by_cases hp:p v=true
  ·simp [hp]
  ·have hp:p v=false:=by simpa using hp
   simp only [hp,Bool.false_eq_true,if_false,Bool.false_or]
   exact foldS_any_fold l _
theorem range_take {α:Type} {l:List α} {d:α} {n:Nat} (h:n≤l.length):(List.range n).map (fun k=>l.getD k d)=l.take n:=by
 refine List.ext_getElem (by simp;omega) fun k h1 h2=>?_
 have hk:k<l.length:=by simp at h2;omega
 rw [List.getElem_map,List.getElem_range,List.getElem_take,List.getD_eq_getElem?_getD,List.getElem?_eq_getElem hk]
 rfl
theorem range_any {α:Type} {l:List α} {d:α} {n:Nat} (q:α→Bool) (h:n≤l.length):((List.range n).any fun k=>q (l.getD k d))=(l.take n).any q:=by
 rw [←range_take h (d:=d),List.any_map]
 rfl
theorem range_foldl {α β:Type} {l:List α} {d:α} (h:β→α→β) (b:β):(List.range l.length).foldl (fun b k=>h b (l.getD k d)) b=l.foldl h b:=by
 have e:=range_take (l:=l) (d:=d) (Nat.le_refl _)
 rw [List.take_length] at e
 conv=>rhs;rw [←e,List.foldl_map]
abbrev fcChanged:FC:=⟨.prod .str (.slice (.st (.prod (.int .i64) (.int .i64)))),.prod .str (.prod (.slice (.int .i64)) .bool),fun x=>List.length x.1<65536∧List.length x.2<65536,fun x=>changedV x.1 x.2⟩
theorem sChanged (x):M.le (S_law14_Changed fcNumber.sh x) (fcChanged.sh x):=M.le_det fun h=>by
 change List UInt8×List (Int×Int) at x
 obtain ⟨f,l⟩:=x
 obtain ⟨h1,h2⟩:f.length<65536∧l.length<65536:=h
 unfold S_law14_Changed
 show _=M.pure (changedV f l)
 dsimp only
 rw [M.loop_list (List.range l.length) (fun i (s:List UInt8×List Int)=>(f,l,s.1,(i:Int),s.2,())) (fun i s=>if badSpot f l i=true then .done (.done ([],[],false)) else .next (setF s.1 (l.getD i (0,0)),s.2++[(numberV f (l.getD i (0,0)).1).1])) (fun s=>.next (s.1,s.2,())) (fun i s=>s.1.length=f.length∧s.2.length=i) (f,[]) ?_ ?_ ?_ ?_]
 ·rw [foldS_any_fold (h:=fun (s:List UInt8×List Int) i=>(setF s.1 (l.getD i (0,0)),s.2++[(numberV f (l.getD i (0,0)).1).1]))]
  unfold changedV
  by_cases hb:(List.range l.length).any (badSpot f l)=true
  ·rw [if_pos hb,if_pos hb,M.bind_pure,M.go_done]
  ·rw [if_neg hb,if_neg hb,M.bind_pure,M.go_next]
   have e:(List.range l.length).foldl (fun (s:List UInt8×List Int) i=>(setF s.1 (l.getD i (0,0)),s.2++[(numberV f (l.getD i (0,0)).1).1])) (f,[])=(l.foldl setF f,l.map fun s=>(numberV f s.1).1):=by
    rw [range_foldl (h:=fun (s:List UInt8×List Int) v=>(setF s.1 v,s.2++[(numberV f v.1).1]))]
    have:∀ (l:List (Int×Int)) (n:List UInt8) (o:List Int),l.foldl (fun (s:List UInt8×List Int) v=>(setF s.1 v,s.2++[(numberV f v.1).1])) (n,o)=(l.foldl setF n,o++l.map fun s=>(numberV f s.1).1):=by
     intro l
     induction l with
     | nil=>intro n o;simp
     | cons v l ih=>intro n o;rw [List.foldl_cons,ih];simp
    rw [this,List.nil_append]
   rw [e]
 ·rfl
 ·exact ⟨rfl,rfl⟩
 ·intro i hi s hs
  obtain ⟨now,bl⟩:=s
  obtain ⟨s1,s2⟩:now.length=f.length∧bl.length=i:=hs
  have hi:i<l.length:=by simpa using hi
  have ei:(List.range l.length)[i]'(by simpa using hi)=i:=List.getElem_range ..
  rw [ei]
  have hw:=wrap64 (n:=(i:Int)+1) (by omega) (by omega)
  have zi:((i:Int)).toNat=i:=rfl
  have hnum:=M.det_true (show f.length<65536 from h1) (numberV f (l.getD i (0,0)).1)
  have hbs:badSpot f l i=(!(numberV f (l.getD i (0,0)).1).2||decide ((l.getD i (0,0)).2<32)||decide ((l.getD i (0,0)).2 > 126)||decide (((f.getD (l.getD i (0,0)).1.toNat 0).toNat:Int)=(l.getD i (0,0)).2)||(l.take i).any fun t=>decide (t.1=(l.getD i (0,0)).1)):=rfl
  have hpos:(numberV f (l.getD i (0,0)).1).2=true→0≤(l.getD i (0,0)).1∧(l.getD i (0,0)).1<(f.length:Int):=fun e=>by
   unfold numberV at e
   by_cases hc:(l.getD i (0,0)).1<0∨(f.length:Int)≤(l.getD i (0,0)).1∨f.getD (l.getD i (0,0)).1.toNat 0=10
   ·rw [if_pos hc] at e;cases e
   ·refine ⟨?_,?_⟩
    ·rcases Int.lt_or_le (l.getD i (0,0)).1 0 with k | k
     ·exact absurd (.inl k) hc
     ·exact k
    ·rcases Int.lt_or_le (l.getD i (0,0)).1 (f.length:Int) with k | k
     ·exact k
     ·exact absurd (.inr (.inl k)) hc
  have hany:=range_any (l:=l) (d:=(0,0)) (n:=i) (fun t=>decide (t.1=(l.getD i (0,0)).1)) (Nat.le_of_lt hi)
  have hgl:l.getD i (0,0)=l[i]:=by rw [List.getD_eq_getElem?_getD,List.getElem?_eq_getElem hi];rfl
  refine ⟨?_,fun s' hs'=>?_⟩
  ·simp only [ofNat_def,lt_len hi,if_true,zi,Prod.q5,Prod.q6]
   rw [show (0≤(i:Int)∧(i:Int)<(l.length:Int))=True from in_len hi]
   generalize hp:l.getD i (0,0)=s at hnum hbs hpos hany
   obtain ⟨p,v⟩:=s
   dsimp only at hnum hbs hpos hany ⊢
   rw [show fcNumber.sh (f,p)=M.pure (numberV f p) from hnum]
   generalize hN:numberV f p=N at hbs hpos
   obtain ⟨n,g⟩:=N
   dsimp only at hbs hpos ⊢
   simp only [M.bind_pure,M.req_True]
   cases g with
   | false=>
    have hbt:badSpot f l i=true:=by rw [hbs];rfl
    rw [hbt]
    simp only [Bool.not_true,Bool.not_false,Bool.true_or,Bool.false_eq_true,false_implies,implies_true,and_self,and_true,true_and,M.req_True,if_true,M.bind_pure]
    rw [M.req_true (fun e=>by cases e),M.req_true (fun e=>by cases e),M.req_true (fun e=>by cases e),M.bind_pure]
    rfl
   | true=>
    obtain ⟨p1,p2⟩:=hpos rfl
    have hpt:(0≤p∧p<(f.length:Int))=True:=by simp only [p1,p2,and_self]
    simp only [Bool.not_true,Bool.not_false,Bool.false_or,hpt,Bool.not_eq_true',and_self,and_true,true_and,imp_self,implies_true,M.req_True]
    have hcast:(f.getD p.toNat 0).1.1.1=(f.getD p.toNat 0).toNat:=rfl
    have hb256:=(f.getD p.toNat 0).toNat_lt
    have hwb:=wrap64 (n:=((f.getD p.toNat 0).toNat:Int)) (by omega) (by omega)
    rw [hcast,hwb]
    cases hc:(decide (v<32)||decide (v > 126)||decide (((f.getD p.toNat 0).toNat:Int)=v)) with
    | true=>
     have hbt:badSpot f l i=true:=by
      rw [hbs]
      have:(!true||decide (v<32)||decide (v > 126)||decide (((f.getD p.toNat 0).toNat:Int)=v))=true:=hc
      rw [this]
      rfl
     rw [hbt,if_pos rfl]
     simp only [M.bind_pure]
     rfl
    | false=>
     have hbt:badSpot f l i=(l.take i).any fun t=>decide (t.1=p):=by
      rw [hbs]
      have:(!true||decide (v<32)||decide (v > 126)||decide (((f.getD p.toNat 0).toNat:Int)=v))=false:=hc
      rw [this,Bool.false_or]
     rw [hbt,if_neg (by decide)]
     have hv:32≤v∧v≤126:=by
      simp only [Bool.or_eq_false_iff,decide_eq_false_iff_not] at hc
      omega
     rw [M.loop_listT (List.range i) (fun k (_:Unit)=>(f,l,now,(i:Int),n,(k:Int),bl,())) (fun k u=>if decide ((l.getD k (0,0)).1=p)=true then .done (.done (.done (.done (.done ([],[],false))))) else .next u) (fun _=>.next (f,l,now,(i:Int),n,bl,())) () ?_ ?_ ?_]
     ·rw [foldS_any,hany]
      cases (l.take i).any fun t=>decide (t.1=p) with
      | true=>
       rw [if_pos rfl,M.bind_pure,M.go_done,M.bind_pure,M.go_done]
       rfl
      | false=>
       rw [if_neg (by decide),M.bind_pure,M.go_next]
       simp only [zi,ofNat_def,Prod.q5,hp]
       have z1:(p+1).toNat=p.toNat+1:=by omega
       have hwp:=wrap64 (n:=p+1) (by omega) (by omega)
       have hpn:p.toNat<now.length:=by omega
       have zl:((now.length:Int)).toNat=now.length:=rfl
       have hb8:bytesOf [IntKind.wrap .u8 v]=[UInt8.ofNat v.toNat]:=by rw [wrap8 (by omega) (by omega)];rfl
       have hsp:=set_split hpn (UInt8.ofNat v.toNat)
       simp only [add_def,add_defN,hwp,z1,zl,List.take_length,hb8,hsp]
       have hin:(0≤(i:Int)∧(i:Int)<(l.length:Int)):=⟨by omega,by omega⟩
       rw [M.req_true hin,M.req_true ⟨Int.le_refl _,p1,by omega⟩,M.req_true hin,M.req_true (by show lenLe _;unfold lenLe;simp;omega),M.req_true hin,M.req_true ⟨by omega,by omega,Int.le_refl _⟩,M.req_true (by show lenLe _;unfold lenLe;simp;omega),M.req_true (by show lenLe _;unfold lenLe;omega),M.bind_pure,M.go_next]
       dsimp only
       rw [hw]
       rfl
     ·rfl
     ·intro k hk u
      have hk:k<i:=by simpa using hk
      have ek:(List.range i)[k]'(by simpa using hk)=k:=List.getElem_range ..
      rw [ek]
      have hwk:=wrap64 (n:=(k:Int)+1) (by omega) (by omega)
      have zk:((k:Int)).toNat=k:=rfl
      have hd:decide ((k:Int)<(i:Int))=true:=decide_eq_true (by omega)
      simp only [hd,if_true,zk,zi,ofNat_def,Prod.q5,Prod.q6,add_def,hwk,hp]
      rw [M.req_true ⟨by omega,by omega⟩,M.req_true ⟨by omega,by omega⟩]
      cases decide ((l.getD k (0,0)).1=p) with
      | true=>simp only [if_true,M.bind_pure];rfl
      | false=>simp only [Bool.false_eq_true,if_false];rfl
     ·intro u
      simp only [List.length_range]
      rw [if_neg (by simp)]
  ·split at hs'
   ·cases hs'
   ·simp only [Step.next.injEq] at hs'
    subst hs'
    exact ⟨by show (setF now _).length=_;unfold setF;rw [List.length_set];exact s1,by simp [s2]⟩
 ·intro s hs
  simp
end Go.Fer
namespace Go.Fer
open M (Step)
set_option linter.unusedVariables false
set_option linter.unusedSimpArgs false
theorem totI_cons (x:Int) (l:List Int):totI (x::l)=x - 32+totI l:=rfl
theorem totI_app:∀ (a b:List Int),totI (a++b)=totI a+totI b
 | [],b=>by show totI b=0+totI b;omega
 | x::a,b=>by
  have:=totI_app a b
  rw [List.cons_append,totI_cons,totI_cons,this]
  omega
def sumN (f:Nat→Int):Nat→Int
 | 0=>0
 | n+1=>sumN f n+f n
theorem sumN_congr {f g:Nat→Int}:∀ (n:Nat),(∀ c,c<n→f c=g c)→sumN f n=sumN g n
 | 0,_=>rfl
 | n+1,h=>by
  show sumN f n+f n=sumN g n+g n
  rw [sumN_congr n fun c hc=>h c (by omega),h n (by omega)]
theorem sumN_add (f g:Nat→Int):∀ n,sumN (fun c=>f c+g c) n=sumN f n+sumN g n
 | 0=>rfl
 | n+1=>by
  have:=sumN_add f g n
  show sumN (fun c=>f c+g c) n+(f n+g n)=sumN f n+f n+(sumN g n+g n)
  omega
theorem sumN_mod (f:Nat→Int):∀ n,sumN (fun c=>f c % 95) n % 95=sumN f n % 95
 | 0=>rfl
 | n+1=>by
  have:=sumN_mod f n
  show (sumN (fun c=>f c % 95) n+f n % 95) % 95=(sumN f n+f n) % 95
  omega
theorem totI_take (r:List Int):∀ n,n≤r.length→totI (r.take n)=sumN (fun c=>r.getD c 0 - 32) n
 | 0,_=>rfl
 | n+1,h=>by
  have ih:=totI_take r n (by omega)
  have hn:n<r.length:=by omega
  have hg:r.getD n 0=r[n]:=by rw [List.getD_eq_getElem?_getD,List.getElem?_eq_getElem hn];rfl
  rw [List.take_add_one,List.getElem?_eq_getElem hn,totI_app,ih]
  show sumN (fun c=>r.getD c 0 - 32) n+(r[n] - 32+0)=sumN (fun c=>r.getD c 0 - 32) n+(r.getD n 0 - 32)
  rw [hg]
  omega
theorem tot_cols (n:Nat):∀ (R:List (List Int)),(∀ r∈R,n≤r.length)→sumN (fun c=>totI (colI R (c:Int))) n=(R.map fun r=>totI (r.take n)).sum
 | [],_=>by
  have:∀ n,sumN (fun c=>totI (colI [] (c:Int))) n=0:=by
   intro n
   induction n with
   | zero=>rfl
   | succ n ih=>show sumN _ n+totI []=0;rw [ih];rfl
  rw [this]
  rfl
 | r::R,h=>by
  have ih:=tot_cols n R fun r hr=>h r (List.mem_cons_of_mem _ hr)
  have e:∀ c:Nat,totI (colI (r::R) (c:Int))=(r.getD c 0 - 32)+totI (colI R (c:Int)):=fun c=>rfl
  rw [sumN_congr n fun c _=>e c,sumN_add,ih,←totI_take r n (h r (by simp))]
  rfl
theorem sum_mod:∀ (l:List Int),(l.map fun x=>x % 95).sum % 95=l.sum % 95
 | []=>rfl
 | x::l=>by
  have:=sum_mod l
  show (x % 95+(l.map fun x=>x % 95).sum) % 95=(x+l.sum) % 95
  omega
theorem colI_last {R:List (List Int)} (w:Nat) {pad:List (List Int)} (hR:R=pad.map fun p=>p++[chkI p]) (hp:∀ p∈pad,p.length=w∧p.all okI=true):totI (colI R (w:Int)) % 95=((pad.map totI).sum) % 95:=by
 subst hR
 have e:colI (pad.map fun p=>p++[chkI p]) (w:Int)=pad.map chkI:=by
  unfold colI
  rw [List.map_map]
  refine List.map_congr_left fun p hpm=>?_
  show (p++[chkI p]).getD ((w:Int)).toNat 0=chkI p
  have zw:((w:Int)).toNat=w:=rfl
  rw [zw,List.getD_eq_getElem?_getD,List.getElem?_append_right (by rw [(hp p hpm).1];exact Nat.le_refl _),(hp p hpm).1,Nat.sub_self]
  rfl
 rw [e]
 have e2:totI (pad.map chkI)=((pad.map totI).map fun x=>x % 95).sum:=by
  unfold totI
  rw [List.map_map,List.map_map]
  congr 1
  refine List.map_congr_left fun p hpm=>?_
  show chkI p - 32=((p.map fun x=>x - 32).sum) % 95
  rw [chkI_tot (hp p hpm).2]
  show totI p % 95+32 - 32=totI p % 95
  omega
 rw [e2,sum_mod]
theorem block_rows_whole {x:List (List UInt8)} (h:∀ t∈x,textOk t):badRowsI (blockI x)=[]:=by
 have hw60:=wideS_60 h
 have hwa:=wideS_all h
 refine List.eq_nil_iff_forall_not_mem.2 fun v hv=>?_
 obtain ⟨i,hi,rfl,hb⟩:=badRowsI_mem.1 hv
 have hbl:(blockI x).length=x.length+1:=by unfold blockI;simp
 rw [hbl] at hi
 by_cases e:i<x.length
 ·have eg:(blockI x).getD i []=rowI (wideS x) x[i]:=by
   unfold blockI
   rw [List.getD_eq_getElem?_getD,List.getElem?_append_left (by simpa using e),List.getElem?_map,List.getElem?_eq_getElem e]
   rfl
  have hl:=padI_len (w:=wideS x) (hwa _ (List.getElem_mem e))
  rw [eg] at hb
  unfold rowBadI rowI at hb
  rw [decide_eq_true_iff] at hb
  refine hb ?_
  have e1:(padI (wideS x) x[i]++[chkI (padI (wideS x) x[i])]).length - 1=(padI (wideS x) x[i]).length:=by simp
  rw [e1,List.take_left,List.getD_eq_getElem?_getD,List.getElem?_append_right (Nat.le_refl _),Nat.sub_self]
  rfl
 ·have ei:i=x.length:=by omega
  subst ei
  generalize hR:x.map (rowI (wideS x))=R
  have eg:(blockI x).getD x.length []=sumsI R (wideS x+2):=by
   unfold blockI
   rw [List.getD_eq_getElem?_getD,List.getElem?_append_right (by simp),hR]
   have:x.length - R.length=0:=by rw [←hR];simp
   rw [this]
   rfl
  have hRr:∀ r∈R,r.all okI=true∧r.length=wideS x+2:=fun r hr=>by
   rw [←hR] at hr
   obtain ⟨t,ht,rfl⟩:=List.mem_map.1 hr
   exact ⟨rowI_ok (h t ht),rowI_len (hwa t ht)⟩
  have hpad:R=(x.map (padI (wideS x))).map fun p=>p++[chkI p]:=by rw [←hR,List.map_map];rfl
  have hpo:∀ p∈x.map (padI (wideS x)),p.length=wideS x+1∧p.all okI=true:=fun p hp=>by
   obtain ⟨t,ht,rfl⟩:=List.mem_map.1 hp
   exact ⟨padI_len (hwa t ht),padI_ok (h t ht)⟩
  have hcok:∀ c:Nat,c<wideS x+2→(colI R (c:Int)).all okI=true:=fun c hc=>colI_ok fun r hr=>⟨(hRr r hr).1,by have:=(hRr r hr).2;omega⟩
  rw [eg] at hb
  unfold rowBadI at hb
  rw [decide_eq_true_iff] at hb
  refine hb ?_
  have hsl:(sumsI R (wideS x+2)).length=wideS x+2:=by unfold sumsI;simp
  have hsg:∀ c,c<wideS x+2→(sumsI R (wideS x+2)).getD c 0=chkI (colI R (c:Int)):=fun c hc=>by
   unfold sumsI
   rw [List.getD_eq_getElem?_getD,List.getElem?_map,List.getElem?_range hc]
   rfl
  have hso:(sumsI R (wideS x+2)).all okI=true:=List.all_eq_true.2 fun v hv=>by
   unfold sumsI at hv
   obtain ⟨c,hc,rfl⟩:=List.mem_map.1 hv
   exact chkI_ok (hcok c (List.mem_range.1 hc))
  have e1:wideS x+2 - 1=wideS x+1:=by omega
  rw [hsl,e1,hsg _ (by omega),chkI_tot (hcok _ (by omega)),chkI_tot (all_takeI hso _),colI_last (wideS x+1) hpad hpo]
  have t1:totI ((sumsI R (wideS x+2)).take (wideS x+1))=sumN (fun c=>totI (colI R (c:Int)) % 95) (wideS x+1):=by
   rw [totI_take _ _ (by omega)]
   refine sumN_congr _ fun c hc=>?_
   rw [hsg c (by omega),chkI_tot (hcok c (by omega))]
   omega
  have t2:=sumN_mod (fun c=>totI (colI R (c:Int))) (wideS x+1)
  have t3:=tot_cols (wideS x+1) R fun r hr=>by have:=(hRr r hr).2;omega
  have t4:(R.map fun r=>totI (r.take (wideS x+1)))=(x.map (padI (wideS x))).map totI:=by
   rw [hpad,List.map_map]
   refine List.map_congr_left fun p hp=>?_
   show totI ((p++[chkI p]).take (wideS x+1))=totI p
   rw [←(hpo p hp).1,List.take_left]
  rw [t1,t2,t3,t4]
theorem block_cols_whole {x:List (List UInt8)} (h:∀ t∈x,textOk t):badColsI (wideS x+2) (blockI x)=[]:=by
 refine List.eq_nil_iff_forall_not_mem.2 fun v hv=>?_
 obtain ⟨c,hc,rfl,hb⟩:=badColsI_mem.1 hv
 have hbl:(blockI x).length=x.length+1:=by unfold blockI;simp
 unfold colBadI at hb
 rw [decide_eq_true_iff] at hb
 refine hb ?_
 have e1:(blockI x).length - 1=(x.map (rowI (wideS x))).length:=by rw [hbl];simp
 have eg:(blockI x).getD (x.map (rowI (wideS x))).length []=sumsI (x.map (rowI (wideS x))) (wideS x+2):=by
  unfold blockI
  rw [List.getD_eq_getElem?_getD,List.getElem?_append_right (Nat.le_refl _),Nat.sub_self]
  rfl
 have et:(blockI x).take (x.map (rowI (wideS x))).length=x.map (rowI (wideS x)):=by unfold blockI;rw [List.take_left]
 rw [e1,eg,et]
 unfold sumsI
 rw [List.getD_eq_getElem?_getD,List.getElem?_map,List.getElem?_range hc]
 rfl
theorem block_look {x:List (List UInt8)} (h:∀ t∈x,textOk t) (h1:1≤x.length) (h8:x.length≤8):lookS (blockS x)=(0,0,0):=by
 have hs:=blockS_shaped h h1 h8
 unfold lookS
 rw [hs.wide]
 have e:numsB (blockS x)=blockI x:=blockS_nums h
 rw [e]
 unfold lookI
 rw [block_rows_whole h,block_cols_whole h]
 rfl
section
variable {l:List (List UInt8)}
theorem written_look (h:∀ t∈l,textOk t):∀ b∈(chunks l).map blockS,lookS b=(0,0,0):=fun b hb=>by
 obtain ⟨c,hc,rfl⟩:=List.mem_map.1 hb
 obtain ⟨c1,c2,c3⟩:=chunks_mem h c hc
 exact block_look c3 c2 c1
theorem written_fix (h:∀ t∈l,textOk t):∀ b∈(chunks l).map blockS,fixS b=b:=fun b hb=>fixS_eq (chunks_shaped h b hb) (by rw [written_look h b hb];decide)
theorem chunks_count:(chunks l).length=(l.length+7) / 8:=by
 have h:∀ k,k<(chunks l).length↔8*k<l.length:=fun k=>chunks_lt
 have h1:=h ((l.length+7) / 8)
 rcases Nat.lt_or_ge (chunks l).length ((l.length+7) / 8) with k | k
 ·have:=(h (chunks l).length).2 (by omega)
  omega
 ·rcases Nat.lt_or_ge ((l.length+7) / 8) (chunks l).length with k2 | k2
  ·have:=h1.1 k2
   omega
  ·omega
theorem file_len (h:∀ t∈l,textOk t) (h40:l.length≤40):(fileS l).length≤3000:=by
 rw [fileS_eq]
 have:∀ B:List (List (List UInt8)),(∀ b∈B,(textS b).length≤600)→(B.flatMap textS).length≤600*B.length:=by
  intro B
  induction B with
  | nil=>intro _;simp
  | cons b B ih=>
   intro hb
   have:=ih fun b' h'=>hb b' (List.mem_cons_of_mem _ h')
   have:=hb b (by simp)
   rw [List.flatMap_cons,List.length_append,List.length_cons]
   omega
 have:=this ((chunks l).map blockS) fun b hb=>shaped_text (chunks_shaped h b hb)
 rw [List.length_map,chunks_count] at this
 have:600*((l.length+7) / 8)≤600*5:=Nat.mul_le_mul_left _ (by omega)
 omega
end
theorem isTexts_ok {x:List (List UInt8)} (h:isTextsV x=true):(∀ t∈x,textOk t)∧x.length≤40:=by
 unfold isTextsV at h
 rw [Bool.and_eq_true,Bool.and_eq_true,List.all_eq_true,decide_eq_true_iff] at h
 exact ⟨fun t ht=>badT_no.1 (by simpa using h.1 t ht),h.2.2⟩
end Go.Fer
namespace Go.Fer
open M (Step)
set_option linter.unusedVariables false
set_option linter.unusedSimpArgs false
abbrev Blk:Type:=List (List UInt8)
def setB (l:Blk) (r c:Nat) (b:UInt8):Blk:=l.set r ((l.getD r []).set c b)
def putF (B:List Blk) (k r c:Nat) (b:UInt8):List Blk:=B.set k (setB (B.getD k []) r c b)
def cellF (B:List Blk) (k r c:Nat):UInt8:=((B.getD k []).getD r []).getD c 0
structure At (B:List Blk) (k r c:Nat):Prop where
 hk:k<B.length
 hr:r<(B.getD k []).length
 hc:c<((B.getD k []).getD r []).length
def preF (B:List Blk) (k r c:Nat):List UInt8:=(B.take k).flatMap textS++(linesS ((B.getD k []).take r)++((B.getD k []).getD r []).take c)
def postF (B:List Blk) (k r c:Nat):List UInt8:=((B.getD k []).getD r []).drop (c+1)++10::(linesS ((B.getD k []).drop (r+1))++10::(B.drop (k+1)).flatMap textS)
theorem split_at {α:Type} {l:List α} {k:Nat} {d:α} (h:k<l.length):l=l.take k++l.getD k d::l.drop (k+1):=by
 have e:l.getD k d=l[k]:=by rw [List.getD_eq_getElem?_getD,List.getElem?_eq_getElem h];rfl
 rw [e,←List.drop_eq_getElem_cons h,List.take_append_drop]
theorem linesS_app (a b:Blk):linesS (a++b)=linesS a++linesS b:=by unfold linesS;rw [List.flatMap_append]
theorem linesS_cons (r:List UInt8) (l:Blk):linesS (r::l)=r++10::linesS l:=by unfold linesS;simp
theorem file_split {B:List Blk} {k r c:Nat} (h:At B k r c):B.flatMap textS=preF B k r c++cellF B k r c::postF B k r c:=by
 obtain ⟨hk,hr,hc⟩:=h
 conv=>lhs;rw [split_at (d:=[]) hk]
 rw [List.flatMap_append,List.flatMap_cons]
 unfold preF postF cellF
 generalize B.getD k []=l at hr hc
 have e1:textS l=linesS (l.take r)++((l.getD r []).take c++(l.getD r []).getD c 0::((l.getD r []).drop (c+1)++10::(linesS (l.drop (r+1))++[10]))):=by
  unfold textS
  conv=>lhs;rw [split_at (d:=[]) hr]
  rw [linesS_app,linesS_cons]
  generalize l.getD r []=w at hc
  conv=>lhs;rw [split_at (d:=0) hc]
  simp
 rw [e1]
 simp
theorem getD_set_self {α:Type} {l:List α} {k:Nat} {x d:α} (h:k<l.length):(l.set k x).getD k d=x:=by
 rw [List.getD_eq_getElem?_getD,List.getElem?_set_self h]
 rfl
theorem getD_set_ne {α:Type} {l:List α} {k j:Nat} {x d:α} (h:k≠j):(l.set k x).getD j d=l.getD j d:=by
 rw [List.getD_eq_getElem?_getD,List.getElem?_set_ne h,←List.getD_eq_getElem?_getD]
theorem putF_at {B:List Blk} {k r c:Nat} (h:At B k r c) (b:UInt8):At (putF B k r c b) k r c:=by
 obtain ⟨hk,hr,hc⟩:=h
 unfold putF setB
 refine ⟨by simpa using hk,?_,?_⟩
 ·rw [getD_set_self hk,List.length_set];exact hr
 ·rw [getD_set_self hk,getD_set_self hr,List.length_set];exact hc
theorem putF_split {B:List Blk} {k r c:Nat} (h:At B k r c) (b:UInt8):(putF B k r c b).flatMap textS=preF B k r c++b::postF B k r c:=by
 rw [file_split (putF_at h b)]
 obtain ⟨hk,hr,hc⟩:=h
 have e1:preF (putF B k r c b) k r c=preF B k r c:=by
  unfold preF putF setB
  rw [getD_set_self hk,getD_set_self hr,List.take_set_of_le (Nat.le_refl _),List.take_set_of_le (Nat.le_refl _),List.take_set_of_le (Nat.le_refl _)]
 have e2:postF (putF B k r c b) k r c=postF B k r c:=by
  unfold postF putF setB
  rw [getD_set_self hk,getD_set_self hr,List.drop_set_of_lt (Nat.lt_succ_self _),List.drop_set_of_lt (Nat.lt_succ_self _),List.drop_set_of_lt (Nat.lt_succ_self _)]
 have e3:cellF (putF B k r c b) k r c=b:=by
  unfold cellF putF setB
  rw [getD_set_self hk,getD_set_self hr,getD_set_self hc]
 rw [e1,e2,e3]
theorem set_mid {α:Type} (a:List α) (x y:α) (c:List α):(a++x::c).set a.length y=a++y::c:=by
 rw [List.set_append_right _ _ (Nat.le_refl _),Nat.sub_self,List.set_cons_zero]
theorem set_file {B:List Blk} {k r c:Nat} (h:At B k r c) (b:UInt8):(B.flatMap textS).set (preF B k r c).length b=(putF B k r c b).flatMap textS:=by
 rw [putF_split h,file_split h,set_mid]
theorem get_file {B:List Blk} {k r c:Nat} (h:At B k r c):(B.flatMap textS).getD (preF B k r c).length 0=cellF B k r c:=by
 rw [file_split h,List.getD_eq_getElem?_getD,List.getElem?_append_right (Nat.le_refl _),Nat.sub_self]
 rfl
theorem loc_lines {b:UInt8} (hb:b≠10):∀ (l:Blk) (q:Nat),(linesS l)[q]?=some b→∃ r c,r<l.length∧c<(l.getD r []).length∧q=(linesS (l.take r)++(l.getD r []).take c).length
 | [],q,h=>by simp [linesS] at h
 | w::l,q,h=>by
  rw [linesS_cons] at h
  rcases Nat.lt_or_ge q w.length with hq | hq
  ·exact ⟨0,q,by simp,hq,by simp [linesS];omega⟩
  ·rw [List.getElem?_append_right hq] at h
   cases hd:q - w.length with
   | zero=>
    rw [hd] at h
    simp at h
    exact absurd h.symm hb
   | succ n=>
    rw [hd,List.getElem?_cons_succ] at h
    obtain ⟨r,c,h1,h2,h3⟩:=loc_lines hb l n h
    refine ⟨r+1,c,by simpa using h1,h2,?_⟩
    rw [List.take_succ_cons,linesS_cons]
    simp only [List.getD_cons_succ,List.length_append,List.length_cons] at h3 ⊢
    omega
theorem locate {b:UInt8} (hb:b≠10):∀ (B:List Blk) (p:Nat),(B.flatMap textS)[p]?=some b→∃ k r c,At B k r c∧p=(preF B k r c).length
 | [],p,h=>by simp at h
 | l::B,p,h=>by
  rw [List.flatMap_cons] at h
  rcases Nat.lt_or_ge p (textS l).length with hp | hp
  ·rw [List.getElem?_append_left hp] at h
   unfold textS at h hp
   rcases Nat.lt_or_ge p (linesS l).length with hq | hq
   ·rw [List.getElem?_append_left hq] at h
    obtain ⟨r,c,h1,h2,h3⟩:=loc_lines hb l p h
    exact ⟨0,r,c,⟨by simp,h1,h2⟩,by simpa [preF] using h3⟩
   ·rw [List.getElem?_append_right hq] at h
    have:p - (linesS l).length=0:=by simp only [List.length_append,List.length_singleton] at hp;omega
    rw [this] at h
    simp at h
    exact absurd h.symm hb
  ·rw [List.getElem?_append_right hp] at h
   obtain ⟨k,r,c,⟨h1,h2,h3⟩,h4⟩:=locate hb B _ h
   refine ⟨k+1,r,c,⟨by simpa using h1,h2,h3⟩,?_⟩
   unfold preF at h4 ⊢
   rw [List.take_succ_cons,List.flatMap_cons,List.length_append,List.length_append]
   rw [List.length_append] at h4
   have e:(l::B).getD (k+1) []=B.getD k []:=rfl
   rw [e]
   omega
def ddp (p:Bool):List UInt8→Nat
 | []=>0
 | b::l=>(if (p&&decide (b=10))=true then 1 else 0)+ddp (decide (b=10)) l
def ddL (l:List UInt8):Nat:=((List.range (l.length - 1)).filter fun k=>decide (l.getD (k+1) 0=10)&&decide (l.getD k 0=10)).length
theorem ddL_ddp:∀ (l:List UInt8) (a:UInt8),ddL (a::l)=ddp (decide (a=10)) l
 | [],a=>rfl
 | b::t,a=>by
  have ih:=ddL_ddp t b
  have e:ddL (a::b::t)=(if (decide (a=10)&&decide (b=10))=true then 1 else 0)+ddL (b::t):=by
   unfold ddL
   have e0:(a::b::t).length - 1=((b::t).length - 1)+1:=by simp
   rw [e0,List.range_succ_eq_map,List.filter_cons]
   have e1:((List.map Nat.succ (List.range ((b::t).length - 1))).filter fun k=>decide ((a::b::t).getD (k+1) 0=10)&&decide ((a::b::t).getD k 0=10)).length=((List.range ((b::t).length - 1)).filter fun k=>decide ((b::t).getD (k+1) 0=10)&&decide ((b::t).getD k 0=10)).length:=by
    rw [List.filter_map,List.length_map]
    rfl
   have e2:(decide ((a::b::t).getD (0+1) 0=10)&&decide ((a::b::t).getD 0 0=10))=(decide (a=10)&&decide (b=10)):=Bool.and_comm _ _
   rw [e2]
   cases decide (a=10)&&decide (b=10) with
   | true=>rw [if_pos rfl,if_pos rfl,List.length_cons,e1];omega
   | false=>rw [if_neg (by decide),if_neg (by decide),e1];omega
  rw [e,ih]
  rfl
theorem endsB_ddp (f:List UInt8) (p:Nat) (h:p≤f.length):endsB f p=ddp false (f.take p):=by
 have e:endsB f p=ddL (f.take p):=by
  unfold endsB ddL
  have hl:(f.take p).length=p:=by simp;omega
  rw [hl]
  congr 1
  refine List.filter_congr fun k hk=>?_
  have hk:=List.mem_range.1 hk
  have e:∀ j,j<p→(f.take p).getD j 0=f.getD j 0:=fun j hj=>by
   rw [List.getD_eq_getElem?_getD,List.getD_eq_getElem?_getD,List.getElem?_take_of_lt hj]
  rw [e _ (by omega),e _ (by omega)]
 rw [e]
 cases hq:f.take p with
 | nil=>rfl
 | cons a l=>
  rw [ddL_ddp]
  show _=(if (false&&decide (a=10))=true then 1 else 0)+ddp (decide (a=10)) l
  simp
theorem ok_ne {b:UInt8} (h:okB b=true):b≠10:=fun e=>by rw [e] at h;exact absurd h (by decide)
theorem ddp_ok:∀ (w:List UInt8) (p:Bool),w.all okB=true→ddp p w=0
 | [],p,_=>rfl
 | b::w,p,h=>by
  simp only [List.all_cons,Bool.and_eq_true] at h
  show (if (p&&decide (b=10))=true then 1 else 0)+ddp (decide (b=10)) w=0
  rw [ddp_ok w _ h.2,decide_eq_false (ok_ne h.1)]
  simp
theorem ddp_row:∀ (w rest:List UInt8) (p:Bool),w.all okB=true→(p=true→w≠[])→ddp p (w++10::rest)=ddp true rest
 | [],rest,p,_,hp=>by
  have:p=false:=by cases p with | false=>rfl | true=>exact absurd rfl (hp rfl)
  subst this
  show (if (false&&decide ((10:UInt8)=10))=true then 1 else 0)+ddp (decide ((10:UInt8)=10)) rest=_
  simp
 | b::w,rest,p,h,hp=>by
  simp only [List.all_cons,Bool.and_eq_true] at h
  show (if (p&&decide (b=10))=true then 1 else 0)+ddp (decide (b=10)) (w++10::rest)=_
  rw [decide_eq_false (ok_ne h.1),ddp_row w rest false h.2 (fun k=>by cases k)]
  simp
theorem ddp_lines:∀ (l:Blk) (rest:List UInt8) (p:Bool),(∀ w∈l,w.all okB=true∧w≠[])→∃ q,ddp p (linesS l++rest)=ddp q rest∧(l≠[]→q=true)
 | [],rest,p,_=>⟨p,rfl,fun k=>absurd rfl k⟩
 | w::l,rest,p,h=>by
  obtain ⟨h1,h2⟩:=h w (by simp)
  obtain ⟨q,e,hq⟩:=ddp_lines l rest true fun w hw=>h w (List.mem_cons_of_mem _ hw)
  refine ⟨if l=[] then true else q,?_,fun _=>?_⟩
  ·rw [linesS_cons,List.append_assoc,List.cons_append,ddp_row w _ p h1 fun _=>h2]
   by_cases hl:l=[]
   ·subst hl
    rw [if_pos rfl]
    rfl
   ·rw [if_neg hl]
    exact e
  ·by_cases hl:l=[]
   ·rw [if_pos hl]
   ·rw [if_neg hl];exact hq hl
theorem shaped_rows {W:Nat} {l:Blk} (h:shaped W l):∀ w∈l,w.all okB=true∧w≠[]:=fun w hw=>by
 obtain ⟨h1,h2⟩:=h.2.2.2.2 w hw
 refine ⟨h2,fun e=>?_⟩
 have:=h.2.2.1
 rw [e] at h1
 simp at h1
 omega
theorem ddp_text {W:Nat} {l:Blk} (h:shaped W l) (rest:List UInt8) (p:Bool):ddp p (textS l++rest)=1+ddp true rest:=by
 have e:textS l++rest=linesS l++10::rest:=by unfold textS;simp
 obtain ⟨q,e1,e2⟩:=ddp_lines l (10::rest) p (shaped_rows h)
 have hl:l≠[]:=fun k=>by have:=h.1;rw [k] at this;simp at this
 rw [e,e1,e2 hl]
 show (if (true&&decide ((10:UInt8)=10))=true then 1 else 0)+ddp (decide ((10:UInt8)=10)) rest=_
 simp
theorem ddp_file:∀ (B:List Blk) (rest:List UInt8) (p:Bool),(∀ l∈B,shaped (wideL l) l)→∃ q,ddp p (B.flatMap textS++rest)=B.length+ddp q rest
 | [],rest,p,_=>⟨p,by simp⟩
 | l::B,rest,p,h=>by
  obtain ⟨q,e⟩:=ddp_file B rest true fun l hl=>h l (List.mem_cons_of_mem _ hl)
  refine ⟨q,?_⟩
  rw [List.flatMap_cons,List.append_assoc,ddp_text (h l (by simp)),e,List.length_cons]
  omega
theorem getD_memB {B:List Blk} {k:Nat} (h:k<B.length):B.getD k []∈B:=by rw [getD_B h];exact List.getElem_mem h
theorem ends_pre {B:List Blk} (hs:∀ l∈B,shaped (wideL l) l) {k r c:Nat} (h:At B k r c):endsB (B.flatMap textS) (preF B k r c).length=k:=by
 have hsp:=file_split h
 have hlen:(preF B k r c).length≤(B.flatMap textS).length:=by rw [hsp,List.length_append];omega
 rw [endsB_ddp _ _ hlen,hsp,List.take_left]
 unfold preF
 obtain ⟨hk,hr,hc⟩:=h
 have hl:=hs _ (getD_memB hk)
 obtain ⟨q,e⟩:=ddp_file (B.take k) (linesS ((B.getD k []).take r)++((B.getD k []).getD r []).take c) false fun l hl=>hs l (List.mem_of_mem_take hl)
 obtain ⟨q2,e2,_⟩:=ddp_lines ((B.getD k []).take r) (((B.getD k []).getD r []).take c) q fun w hw=>shaped_rows hl w (List.mem_of_mem_take hw)
 have hrow:(B.getD k []).getD r []∈B.getD k []:=by
  rw [List.getD_eq_getElem?_getD (i:=r),List.getElem?_eq_getElem hr]
  exact List.getElem_mem hr
 rw [e,e2,ddp_ok _ q2 (all_take (hl.2.2.2.2 _ hrow).2 _),List.length_take]
 omega
def plF (B:List Blk) (k r c:Nat):Nat:=fromAt B k+r*(wideL (B.getD k [])+1)+c
theorem fromAt_flat (B:List Blk) (k:Nat):fromAt B k=((B.take k).flatMap textS).length:=by
 unfold fromAt
 rw [List.length_flatMap]
theorem preF_len {B:List Blk} (hs:∀ l∈B,shaped (wideL l) l) {k r c:Nat} (h:At B k r c):(preF B k r c).length=plF B k r c:=by
 obtain ⟨hk,hr,hc⟩:=h
 have hl:=hs _ (getD_memB hk)
 unfold preF plF
 rw [List.length_append,List.length_append,←fromAt_flat,linesS_shaped (W:=wideL (B.getD k [])) _ fun w hw=>(hl.2.2.2.2 w (List.mem_of_mem_take hw)).1,List.length_take,List.length_take,Nat.min_eq_left (by omega),Nat.min_eq_left (by omega)]
 omega
theorem row_at {B:List Blk} (hs:∀ l∈B,shaped (wideL l) l) {k r c:Nat} (h:At B k r c):c<wideL (B.getD k [])∧okB (cellF B k r c)=true:=by
 obtain ⟨hk,hr,hc⟩:=h
 have hl:=hs _ (getD_memB hk)
 have hrow:(B.getD k []).getD r []∈B.getD k []:=by
  rw [List.getD_eq_getElem?_getD (i:=r),List.getElem?_eq_getElem hr]
  exact List.getElem_mem hr
 obtain ⟨h1,h2⟩:=hl.2.2.2.2 _ hrow
 refine ⟨by rw [←h1];exact hc,?_⟩
 unfold cellF
 rw [List.getD_eq_getElem?_getD (i:=c),List.getElem?_eq_getElem hc]
 exact List.all_eq_true.1 h2 _ (List.getElem_mem hc)
theorem number_pl {B:List Blk} (hs:∀ l∈B,shaped (wideL l) l) {k r c:Nat} (h:At B k r c):numberV (B.flatMap textS) ((plF B k r c:Nat):Int)=((k:Int),true):=by
 have hp:=preF_len hs h
 have hg:=get_file h
 have hc:=(row_at hs h).2
 have hlen:(preF B k r c).length<(B.flatMap textS).length:=by rw [file_split h,List.length_append,List.length_cons];omega
 rw [hp] at hg hlen
 unfold numberV
 have z:(((plF B k r c:Nat):Int)).toNat=plF B k r c:=rfl
 rw [z,hg,if_neg (by
  rintro (k1 | k1 | k1)
  ·omega
  ·omega
  ·exact ok_ne hc k1),←hp,ends_pre hs h]
structure Same (B B':List Blk):Prop where
 len:B'.length=B.length
 sh:∀ l∈B',shaped (wideL l) l
 at':∀ k,k<B.length→(B'.getD k []).length=(B.getD k []).length∧wideL (B'.getD k [])=wideL (B.getD k [])
theorem Same.refl {B:List Blk} (hs:∀ l∈B,shaped (wideL l) l):Same B B:=⟨rfl,hs,fun _ _=>⟨rfl,rfl⟩⟩
theorem Same.fromAt {B B':List Blk} (hs:∀ l∈B,shaped (wideL l) l) (h:Same B B'):∀ k,k≤B.length→fromAt B' k=fromAt B k
 | 0,_=>rfl
 | k+1,hk=>by
  have ih:=Same.fromAt hs h k (by omega)
  have hk1:k<B.length:=by omega
  have hk2:k<B'.length:=by rw [h.len];omega
  have e1:=textS_shaped (hs _ (List.getElem_mem hk1))
  have e2:=textS_shaped (h.sh _ (List.getElem_mem hk2))
  have e3:=h.at' k hk1
  rw [getD_B hk1,getD_B hk2] at e3
  rw [fromAt_succ hk1,fromAt_succ hk2,ih,e1,e2,e3.1,e3.2]
theorem Same.pl {B B':List Blk} (hs:∀ l∈B,shaped (wideL l) l) (h:Same B B') {k:Nat} (hk:k<B.length) (r c:Nat):plF B' k r c=plF B k r c:=by
 unfold plF
 rw [h.fromAt hs k (by omega),(h.at' k hk).2]
theorem Same.at {B B':List Blk} (hs:∀ l∈B,shaped (wideL l) l) (h:Same B B') {k r c:Nat} (ha:At B k r c):At B' k r c:=by
 obtain ⟨hk,hr,hc⟩:=ha
 obtain ⟨e1,e2⟩:=h.at' k hk
 have hk2:k<B'.length:=by rw [h.len];exact hk
 have hl:=h.sh _ (getD_memB hk2)
 have hl0:=hs _ (getD_memB hk)
 have hr2:r<(B'.getD k []).length:=by omega
 have m1:(B'.getD k []).getD r []∈B'.getD k []:=by
  rw [List.getD_eq_getElem?_getD (i:=r),List.getElem?_eq_getElem hr2]
  exact List.getElem_mem hr2
 have m0:(B.getD k []).getD r []∈B.getD k []:=by
  rw [List.getD_eq_getElem?_getD (i:=r),List.getElem?_eq_getElem hr]
  exact List.getElem_mem hr
 have w1:=(hl.2.2.2.2 _ m1).1
 have w0:=(hl0.2.2.2.2 _ m0).1
 exact ⟨hk2,hr2,by rw [w1,e2,←w0];exact hc⟩
theorem setB_shaped {W:Nat} {l:Blk} (h:shaped W l) {r c:Nat} (hr:r<l.length) {b:UInt8} (hb:okB b=true):shaped W (setB l r c b):=by
 obtain ⟨h1,h2,h3,h4,h5⟩:=h
 have hrow:l.getD r []∈l:=by
  rw [List.getD_eq_getElem?_getD,List.getElem?_eq_getElem hr]
  exact List.getElem_mem hr
 obtain ⟨g1,g2⟩:=h5 _ hrow
 unfold setB
 refine ⟨by rw [List.length_set];exact h1,by rw [List.length_set];exact h2,h3,h4,fun w hw=>?_⟩
 rcases List.mem_or_eq_of_mem_set hw with hw | hw
 ·exact h5 w hw
 ·rw [hw,List.length_set]
  refine ⟨g1,List.all_eq_true.2 fun v hv=>?_⟩
  rcases List.mem_or_eq_of_mem_set hv with hv | hv
  ·exact List.all_eq_true.1 g2 v hv
  ·rw [hv];exact hb
theorem Same.put {B B':List Blk} (h:Same B B') {k r c:Nat} (ha:At B' k r c) {b:UInt8} (hb:okB b=true):Same B (putF B' k r c b):=by
 obtain ⟨hk,hr,hc⟩:=ha
 have hl:=h.sh _ (getD_memB hk)
 have hs:=setB_shaped hl hr (c:=c) hb
 have hw:=hs.wide
 unfold putF
 refine ⟨by rw [List.length_set];exact h.len,fun l hl'=>?_,fun j hj=>?_⟩
 ·rcases List.mem_or_eq_of_mem_set hl' with hl' | hl'
  ·exact h.sh l hl'
  ·rw [hl',hw];exact hs
 ·by_cases e:k=j
  ·subst e
   rw [getD_set_self hk,hw]
   refine ⟨?_,(h.at' k hj).2⟩
   unfold setB
   rw [List.length_set]
   exact (h.at' k hj).1
  ·rw [getD_set_ne e]
   exact h.at' j hj
end Go.Fer
namespace Go.Fer
open M (Step)
set_option linter.unusedVariables false
set_option linter.unusedSimpArgs false
def setI (R:List (List Int)) (r c:Nat) (v:Int):List (List Int):=R.set r ((R.getD r []).set c v)
theorem setI_get {R:List (List Int)} {r c:Nat} {v:Int} (hr:r<R.length) (k:Nat):(setI R r c v).getD k []=if r=k then (R.getD r []).set c v else R.getD k []:=by
 unfold setI
 by_cases e:r=k
 ·subst e;rw [if_pos rfl,getD_set_self hr]
 ·rw [if_neg e,getD_set_ne e]
theorem rowBad_one {r:List Int} (h:rowOk r) (hb:rowBadI r=false) {c:Nat} (hc:c<r.length) {v:Int} (hv:okI v=true) (hne:v≠r.getD c 0):rowBadI (r.set c v)=true:=by
 cases hq:rowBadI (r.set c v) with
 | true=>rfl
 | false=>
  have h0:=(rowBadI_iff h).1 hb
  have hp:r.set c v=putI r (c:Int) v:=rfl
  have hok:rowOk (putI r (c:Int) v):=putI_ok h hv
  rw [hp] at hq
  have h1:=(rowBadI_iff hok).1 hq
  rw [defI_put h.1 (by omega) (by omega)] at h1
  have zc:((c:Int)).toNat=c:=rfl
  rw [zc] at h1
  have g:=getD_ok h.2.2 hc
  have g2:=okI_iff.1 hv
  split at h1<;>omega
theorem colBad_one {W:Nat} {R:List (List Int)} (h:shapedI W R) {c:Nat} (hc:c<W) (hb:colBadI R c=false) {r:Nat} (hr:r<R.length) {v:Int} (hv:okI v=true) (hne:v≠(R.getD r []).getD c 0):colBadI (setI R r c v) c=true:=by
 obtain ⟨h1,h2,h3,h4,h5⟩:=h
 have hrow:=h5 _ (getD_memR hr)
 have hlen:(setI R r c v).length=R.length:=by unfold setI;rw [List.length_set]
 unfold colBadI at hb ⊢
 rw [decide_eq_false_iff_not,Decidable.not_not] at hb
 rw [hlen,decide_eq_true_iff]
 have htk:∀ w∈R.take (R.length - 1),w.length=W∧w.all okI=true:=fun w hw=>h5 w (List.mem_of_mem_take hw)
 by_cases e:r=R.length - 1
 ·have eg:(setI R r c v).getD (R.length - 1) []=(R.getD r []).set c v:=by rw [setI_get hr,if_pos e]
  have et:(setI R r c v).take (R.length - 1)=R.take (R.length - 1):=by unfold setI;rw [←e];exact List.take_set_of_le (Nat.le_refl _)
  rw [eg,et,getD_set (by omega),if_pos rfl,←hb,←e]
  exact hne
 ·have hr':r<R.length - 1:=by omega
  have eg:(setI R r c v).getD (R.length - 1) []=R.getD (R.length - 1) []:=by rw [setI_get hr,if_neg (by omega)]
  have et:(setI R r c v).take (R.length - 1)=(R.take (R.length - 1)).set r ((R.getD r []).set c v):=by unfold setI;rw [List.take_set]
  have ec:colI ((R.take (R.length - 1)).set r ((R.getD r []).set c v)) (c:Int)=(colI (R.take (R.length - 1)) (c:Int)).set r v:=by
   unfold colI
   rw [List.map_set]
   have zc:((c:Int)).toNat=c:=rfl
   rw [zc,getD_set (by omega),if_pos rfl]
  have hcl:(colI (R.take (R.length - 1)) (c:Int)).length=R.length - 1:=by unfold colI;simp
  have hco:=colI_okR htk hc
  have hcg:(colI (R.take (R.length - 1)) (c:Int)).getD r 0=(R.getD r []).getD c 0:=by
   unfold colI
   have zc:((c:Int)).toNat=c:=rfl
   rw [zc,List.getD_eq_getElem?_getD,List.getElem?_map,List.getElem?_take_of_lt hr',List.getElem?_eq_getElem hr,List.getD_eq_getElem?_getD (l:=R),List.getElem?_eq_getElem hr]
   rfl
  rw [eg,et,ec,hb,chkI_tot hco,chkI_tot (set_ok hco hv),totI_set _ _ _ (by omega),hcg]
  have g:=getD_ok hrow.2 (i:=c) (by omega)
  have g2:=okI_iff.1 hv
  omega
theorem filter_one {n i:Nat} {p:Int→Bool} (hi:i<n) (h:∀ k,k<n→p (k:Int)=decide (k=i)):(idxI n).filter p=[(i:Int)]:=by
 have h1:(idxI n).filter p=(idxI n).filter fun v=>decide (v=(i:Int)):=List.filter_congr fun v hv=>by
  obtain ⟨k,hk,rfl⟩:=List.mem_map.1 hv
  rw [h k (List.mem_range.1 hk)]
  exact decide_eq_decide.2 (by omega)
 rw [h1]
 unfold idxI
 rw [List.filter_map]
 have h2:(List.range n).filter ((fun v=>decide (v=(i:Int))) ∘ fun i:Nat=>(i:Int))=[i]:=by
  have h3:(List.range n).filter ((fun v=>decide (v=(i:Int))) ∘ fun i:Nat=>(i:Int))=(List.range n).filter fun k=>decide (k=i):=List.filter_congr fun k _=>decide_eq_decide.2 (by show ((k:Nat):Int)=(i:Int)↔k=i;omega)
  rw [h3]
  have:∀ m,i<m→(List.range m).filter (fun k=>decide (k=i))=[i]:=by
   intro m
   induction m with
   | zero=>intro h;omega
   | succ m ih=>
    intro h
    rw [List.range_succ,List.filter_append]
    by_cases e:m=i
    ·subst e
     have:(List.range m).filter (fun k=>decide (k=m))=[]:=List.filter_eq_nil_iff.2 fun k hk=>by have:=List.mem_range.1 hk;simp;omega
     rw [this]
     simp
    ·rw [ih (by omega)]
     simp [e]
  exact this n hi
 rw [h2]
 rfl
def wholeI (W:Nat) (R:List (List Int)):Prop:=shapedI W R∧badRowsI R=[]∧badColsI W R=[]
theorem wholeI.row {W:Nat} {R:List (List Int)} (h:wholeI W R) {k:Nat} (hk:k<R.length):rowBadI (R.getD k [])=false:=by
 cases hq:rowBadI (R.getD k []) with
 | false=>rfl
 | true=>
  have:(k:Int)∈badRowsI R:=badRowsI_mem.2 ⟨k,hk,rfl,hq⟩
  rw [h.2.1] at this
  cases this
theorem wholeI.col {W:Nat} {R:List (List Int)} (h:wholeI W R) {k:Nat} (hk:k<W):colBadI R k=false:=by
 cases hq:colBadI R k with
 | false=>rfl
 | true=>
  have:(k:Int)∈badColsI W R:=badColsI_mem.2 ⟨k,hk,rfl,hq⟩
  rw [h.2.2] at this
  cases this
theorem colBad_other {R:List (List Int)} (h0:0<R.length) {r c j:Nat} (hr:r<R.length) {v:Int} (hcl:c<(R.getD r []).length) (hj:j≠c):colBadI (setI R r c v) j=colBadI R j:=
 colBadI_congr (by unfold setI;rw [List.length_set]) (fun k hk=>by
  rw [setI_get hr]
  by_cases e:r=k
  ·subst e
   rw [if_pos rfl,getD_set hcl,if_neg fun x=>hj x.symm]
  ·rw [if_neg e]) h0
theorem look_one {W:Nat} {R:List (List Int)} (h:wholeI W R) {r c:Nat} (hr:r<R.length) (hc:c<W) {v:Int} (hv:okI v=true) (hne:v≠(R.getD r []).getD c 0) :
  lookI W (setI R r c v)=(1,(r:Int),(c:Int))∧mendI (setI R r c v) (r:Int) (c:Int)=R:=by
 have hs:=h.1
 have hrow:=hs.2.2.2.2 _ (getD_memR hr)
 have hrok:=hs.row (getD_memR hr)
 have hlen:(setI R r c v).length=R.length:=by unfold setI;rw [List.length_set]
 have hbr:badRowsI (setI R r c v)=[(r:Int)]:=by
  unfold badRowsI
  rw [hlen]
  refine filter_one hr fun k hk=>?_
  have zk:((k:Int)).toNat=k:=rfl
  rw [zk,setI_get hr]
  by_cases e:k=r
  ·subst e
   rw [if_pos rfl,decide_eq_true rfl]
   exact rowBad_one hrok (h.row hr) (by omega) hv hne
  ·rw [if_neg fun x=>e x.symm,decide_eq_false e]
   exact h.row hk
 have hbc:badColsI W (setI R r c v)=[(c:Int)]:=by
  unfold badColsI
  refine filter_one hc fun k hk=>?_
  have zk:((k:Int)).toNat=k:=rfl
  rw [zk]
  by_cases e:k=c
  ·subst e
   rw [decide_eq_true rfl]
   exact colBad_one hs hc (h.col hc) hr hv hne
  ·rw [decide_eq_false e,colBad_other (by omega) hr (by omega) e]
   exact h.col hk
 have zr:((r:Int)).toNat=r:=rfl
 have zc:((c:Int)).toNat=c:=rfl
 have hm:mendI (setI R r c v) (r:Int) (c:Int)=R:=by
  unfold mendI
  rw [zr,setI_get hr,if_pos rfl]
  have hok1:rowOk ((R.getD r []).set c v):=⟨by rw [List.length_set];exact hrok.1,by rw [List.length_set];exact hrok.2.1,set_ok hrok.2.2 hv⟩
  have hback:putI ((R.getD r []).set c v) (c:Int) ((R.getD r []).getD c 0)=R.getD r []:=by
   unfold putI
   rw [zc,List.set_set,List.getD_eq_getElem?_getD (i:=c),List.getElem?_eq_getElem (by omega:c<(R.getD r []).length)]
   simp
  have hg:=getD_ok hrow.2 (i:=c) (by omega)
  have hf:fixI ((R.getD r []).set c v) (c:Int)=(R.getD r []).getD c 0:=fixI_eq hok1 (by omega) (by rw [List.length_set];omega) (okI_iff.2 hg) (by rw [hback];exact h.row hr)
  rw [hf,hback]
  unfold setI
  rw [List.set_set]
  have e:R.getD r []=R[r]:=by rw [List.getD_eq_getElem?_getD,List.getElem?_eq_getElem hr];rfl
  rw [e]
  simp
 refine ⟨?_,hm⟩
 unfold lookI
 have g1:List.getD [(r:Int)] 0 0=(r:Int):=rfl
 have g2:List.getD [(c:Int)] 0 0=(c:Int):=rfl
 rw [hbr,hbc,g1,g2,hm,zc,h.col hc]
 rfl
theorem two_len {l:List Int} {a b:Int} (h:a≠b) (ha:a∈l) (hb:b∈l):2≤l.length:=by
 match l,ha,hb with
 | [],ha,_=>cases ha
 | [x],ha,hb=>
  rw [List.mem_singleton] at ha hb
  exact absurd (ha.trans hb.symm) h
 | _::_::_,_,_=>simp
theorem look_two {W:Nat} {R:List (List Int)} (h:wholeI W R) {r c r' c':Nat} (hr:r<R.length) (hc:c<W) (hr':r'<R.length) (hc':c'<W) {v v':Int} (hv:okI v=true) (hv':okI v'=true)
  (hne:v≠(R.getD r []).getD c 0) (hne':v'≠(R.getD r' []).getD c' 0) (hd:¬(r=r'∧c=c')):(lookI W (setI (setI R r c v) r' c' v')).1=2:=by
 have hs:=h.1
 have hl1:(setI R r c v).length=R.length:=by unfold setI;rw [List.length_set]
 have hr1:r'<(setI R r c v).length:=by omega
 have hl2:(setI (setI R r c v) r' c' v').length=R.length:=by unfold setI at hl1 ⊢;rw [List.length_set];exact hl1
 have hw:=hs.2.2.2.2 _ (getD_memR hr)
 have hw':=hs.2.2.2.2 _ (getD_memR hr')
 have key:2≤(badRowsI (setI (setI R r c v) r' c' v')).length∨2≤(badColsI W (setI (setI R r c v) r' c' v')).length:=by
  by_cases e:r=r'
  ·subst e
   have hcc:c≠c':=fun x=>hd ⟨rfl,x⟩
   right
   refine two_len (a:=(c:Int)) (b:=(c':Int)) (by omega) (badColsI_mem.2 ⟨c,hc,rfl,?_⟩) (badColsI_mem.2 ⟨c',hc',rfl,?_⟩)
   ·have hcl:c'<((setI R r c v).getD r []).length:=by rw [setI_get hr,if_pos rfl,List.length_set];omega
    rw [colBad_other (by omega) hr1 hcl hcc]
    exact colBad_one hs hc (h.col hc) hr hv hne
   ·have e2:colBadI (setI (setI R r c v) r c' v') c'=colBadI (setI R r c' v') c':=colBadI_congr (by rw [hl2];unfold setI;rw [List.length_set]) (fun k hk=>by
     rw [setI_get hr1,setI_get hr,setI_get hr,setI_get hr]
     by_cases e:r=k
     ·subst e
      simp only [if_true]
      rw [getD_set (by rw [List.length_set];omega),if_pos rfl,getD_set (by omega),if_pos rfl]
     ·simp only [if_neg e]) (by unfold setI;rw [List.length_set];omega)
    rw [e2]
    exact colBad_one hs hc' (h.col hc') hr hv' hne'
  ·left
   refine two_len (a:=(r:Int)) (b:=(r':Int)) (by omega) (badRowsI_mem.2 ⟨r,by omega,rfl,?_⟩) (badRowsI_mem.2 ⟨r',by omega,rfl,?_⟩)
   ·rw [setI_get hr1,if_neg fun x=>e x.symm,setI_get hr,if_pos rfl]
    exact rowBad_one (hs.row (getD_memR hr)) (h.row hr) (by omega) hv hne
   ·rw [setI_get hr1,if_pos rfl,setI_get hr,if_neg e]
    exact rowBad_one (hs.row (getD_memR hr')) (h.row hr') (by omega) hv' hne'
 unfold lookI
 rw [if_neg (by omega),if_pos (by omega)]
theorem setB_nums (l:Blk) (r c:Nat) (b:UInt8):numsB (setB l r c b)=setI (numsB l) r c (b.toNat:Int):=by
 unfold numsB setB setI
 rw [List.map_set,numsOf_set]
 have:=getD_nums (l:=l) (k:=r)
 rw [this]
def wholeS (l:Blk):Prop:=shaped (wideL l) l∧lookS l=(0,0,0)
theorem wholeS.nums {l:Blk} (h:wholeS l):wholeI (wideL l) (numsB l):=by
 obtain ⟨h1,h2⟩:=h
 unfold lookS at h2
 rcases lookI_cases (wideL l) (numsB l) with ⟨e,c⟩ | ⟨e,c⟩ | ⟨r,a,e,_⟩
 ·exact ⟨h1.nums,List.length_eq_zero_iff.1 (by omega),List.length_eq_zero_iff.1 (by omega)⟩
 ·rw [e] at h2;exact absurd (congrArg (fun z=>z.1) h2) (by decide)
 ·rw [e] at h2;exact absurd (congrArg (fun z=>z.1) h2) (by show ¬(1:Int)=0;decide)
theorem okB_okI {b:UInt8}:okI (b.toNat:Int)=okB b:=by
 rw [Bool.eq_iff_iff]
 unfold okI okB
 simp
 omega
theorem cell_nums (l:Blk) (r c:Nat):((numsB l).getD r []).getD c 0=(((l.getD r []).getD c 0).toNat:Int):=by rw [getD_nums,numsOf_get]
theorem blk_one {l:Blk} (h:wholeS l) {r c:Nat} (hr:r<l.length) (hc:c<wideL l) {b:UInt8} (hb:okB b=true) (hne:b≠(l.getD r []).getD c 0) :
  lookS (setB l r c b)=(1,(r:Int),(c:Int))∧fixS (setB l r c b)=l:=by
 have hs:=setB_shaped h.1 hr (c:=c) hb
 have hw:=hs.wide
 have hwI:wideI (numsB (setB l r c b))=wideL l:=hs.nums.wide
 have hn:=h.nums
 obtain ⟨k1,k2⟩:=look_one hn (r:=r) (c:=c) (by simpa using hr) hc (v:=(b.toNat:Int)) (by rw [okB_okI];exact hb) (fun e=>hne (by
  rw [cell_nums] at e
  exact UInt8.toNat_inj.1 (by omega)))
 rw [←setB_nums] at k1 k2
 refine ⟨by unfold lookS;rw [hw];exact k1,?_⟩
 unfold fixS fixR
 rw [hwI,k1,if_pos rfl]
 dsimp only
 rw [k2,bytes_nums]
theorem blk_two {l:Blk} (h:wholeS l) {r c r' c':Nat} (hr:r<l.length) (hc:c<wideL l) (hr':r'<l.length) (hc':c'<wideL l) {b b':UInt8} (hb:okB b=true) (hb':okB b'=true)
  (hne:b≠(l.getD r []).getD c 0) (hne':b'≠(l.getD r' []).getD c' 0) (hd:¬(r=r'∧c=c')):lostS (setB (setB l r c b) r' c' b')=true:=by
 have hs:=setB_shaped h.1 hr (c:=c) hb
 have hs2:=setB_shaped hs (r:=r') (c:=c') (b:=b') (by unfold setB;rw [List.length_set];exact hr') hb'
 have hw:=hs2.wide
 have hn:=h.nums
 have k:=look_two hn (r:=r) (c:=c) (r':=r') (c':=c') (by simpa using hr) hc (by simpa using hr') hc' (v:=(b.toNat:Int)) (v':=(b'.toNat:Int)) (by rw [okB_okI];exact hb) (by rw [okB_okI];exact hb')
  (fun e=>hne (by rw [cell_nums] at e;exact UInt8.toNat_inj.1 (by omega))) (fun e=>hne' (by rw [cell_nums] at e;exact UInt8.toNat_inj.1 (by omega))) hd
 rw [←setB_nums,←setB_nums] at k
 unfold lostS lookS
 rw [hw]
 exact decide_eq_true k
end Go.Fer
namespace Go.Fer
open M (Step)
set_option linter.unusedVariables false
set_option linter.unusedSimpArgs false
abbrev Chg:Type:=Nat×Nat×Nat×UInt8
def spotC (B:List Blk) (c:Chg):Int×Int:=(((plF B c.1 c.2.1 c.2.2.1:Nat):Int),(c.2.2.2.toNat:Int))
def goodC (B:List Blk) (c:Chg):Prop:=At B c.1 c.2.1 c.2.2.1∧okB c.2.2.2=true∧c.2.2.2≠cellF B c.1 c.2.1 c.2.2.1
def applyC (B:List Blk) (c:Chg):List Blk:=putF B c.1 c.2.1 c.2.2.1 c.2.2.2
def spotOk (f:List UInt8) (s:Int×Int):Prop:=(numberV f s.1).2=true∧32≤s.2∧s.2≤126∧((f.getD s.1.toNat 0).toNat:Int)≠s.2
theorem changed_ok {f:List UInt8} {l:List (Int×Int)} (h:(changedV f l).2.2=true) :
  (∀ s∈l,spotOk f s)∧l.Pairwise (fun a b=>a.1≠b.1)∧changedV f l=(l.foldl setF f,l.map fun s=>(numberV f s.1).1,true):=by
 unfold changedV at h ⊢
 by_cases hb:(List.range l.length).any (badSpot f l)=true
 ·rw [if_pos hb] at h;cases h
 ·rw [if_neg hb]
  have hg:∀ i,i<l.length→badSpot f l i=false:=fun i hi=>by
   cases hq:badSpot f l i with
   | false=>rfl
   | true=>exact absurd (List.any_eq_true.2 ⟨i,List.mem_range.2 hi,hq⟩) hb
  have hget:∀ i (hi:i<l.length),l.getD i (0,0)=l[i]:=fun i hi=>by rw [List.getD_eq_getElem?_getD,List.getElem?_eq_getElem hi];rfl
  refine ⟨fun s hs=>?_,?_,rfl⟩
  ·obtain ⟨i,hi,rfl⟩:=List.mem_iff_getElem.1 hs
   have:=hg i hi
   unfold badSpot at this
   rw [hget i hi] at this
   simp only [Bool.or_eq_false_iff,Bool.not_eq_false',decide_eq_false_iff_not] at this
   obtain ⟨⟨⟨⟨h1,h2⟩,h3⟩,h4⟩,_⟩:=this
   exact ⟨h1,by omega,by omega,h4⟩
  ·rw [List.pairwise_iff_getElem]
   intro i j hi hj hij e
   have:=hg j hj
   unfold badSpot at this
   rw [hget j hj] at this
   simp only [Bool.or_eq_false_iff] at this
   have h5:=this.2
   rw [←Bool.not_eq_true,List.any_eq_true] at h5
   refine h5 ⟨l[i],?_,decide_eq_true e⟩
   have:l[i]=(l.take j)[i]'(by simp;omega):=by simp
   rw [this]
   exact List.getElem_mem _
theorem spots_ex {B:List Blk} (hs:∀ l∈B,shaped (wideL l) l):∀ (l:List (Int×Int)),(∀ s∈l,spotOk (B.flatMap textS) s)→∃ cs:List Chg,l=cs.map (spotC B)∧∀ c∈cs,goodC B c
 | [],_=>⟨[],rfl,by simp⟩
 | s::l,h=>by
  obtain ⟨cs,e,hc⟩:=spots_ex hs l fun s hs=>h s (List.mem_cons_of_mem _ hs)
  obtain ⟨h1,h2,h3,h4⟩:=h s (by simp)
  obtain ⟨p,v⟩:=s
  dsimp only at h1 h2 h3 h4
  have hp:¬(p<0∨((B.flatMap textS).length:Int)≤p∨(B.flatMap textS).getD p.toNat 0=10):=fun k=>by
   unfold numberV at h1
   rw [if_pos k] at h1
   cases h1
  have p0:0≤p:=by
   rcases Int.lt_or_le p 0 with k | k
   ·exact absurd (.inl k) hp
   ·exact k
  have p1:p.toNat<(B.flatMap textS).length:=by
   rcases Nat.lt_or_ge p.toNat (B.flatMap textS).length with k | k
   ·exact k
   ·exact absurd (.inr (.inl (by omega))) hp
  have p2:(B.flatMap textS).getD p.toNat 0≠10:=fun k=>hp (.inr (.inr k))
  have pg:(B.flatMap textS)[p.toNat]?=some ((B.flatMap textS).getD p.toNat 0):=by
   rw [List.getD_eq_getElem?_getD,List.getElem?_eq_getElem p1]
   rfl
  obtain ⟨k,r,c,ha,hpl⟩:=locate p2 B p.toNat pg
  have hg:=get_file ha
  rw [←hpl] at hg
  rw [preF_len hs ha] at hpl
  have hv8:(UInt8.ofNat v.toNat).toNat=v.toNat:=by simp;omega
  refine ⟨(k,r,c,UInt8.ofNat v.toNat)::cs,?_,fun c' hc'=>?_⟩
  ·rw [List.map_cons,←e]
   congr 1
   unfold spotC
   dsimp only
   rw [←hpl,hv8]
   exact Prod.ext (by show p=((p.toNat:Nat):Int);omega) (by show v=((v.toNat:Nat):Int);omega)
  ·rcases List.mem_cons.1 hc' with rfl | hc'
   ·refine ⟨ha,?_,fun k=>?_⟩
    ·unfold okB
     dsimp only
     rw [hv8]
     simp
     omega
    ·dsimp only at k
     rw [←hg] at k
     rw [←k,hv8] at h4
     omega
   ·exact hc c' hc'
theorem fold_chg {B:List Blk} (hs:∀ l∈B,shaped (wideL l) l):∀ (cs:List Chg) (B':List Blk),Same B B'→(∀ c∈cs,goodC B c)→(cs.map (spotC B)).foldl setF (B'.flatMap textS)=(cs.foldl applyC B').flatMap textS∧Same B (cs.foldl applyC B')
 | [],B',h,_=>⟨rfl,h⟩
 | c::cs,B',h,hg=>by
  obtain ⟨ha,hok,_⟩:=hg c (by simp)
  have ha':=h.at hs ha
  have e:setF (B'.flatMap textS) (spotC B c)=(applyC B' c).flatMap textS:=by
   unfold setF spotC applyC
   dsimp only
   have z1:(((plF B c.1 c.2.1 c.2.2.1:Nat):Int)).toNat=plF B c.1 c.2.1 c.2.2.1:=rfl
   have z2:(((c.2.2.2.toNat:Nat):Int)).toNat=c.2.2.2.toNat:=rfl
   rw [z1,z2,←h.pl hs ha.hk,←preF_len h.sh ha',set_file ha']
   simp
  rw [List.map_cons,List.foldl_cons,List.foldl_cons,e]
  exact fold_chg hs cs _ (h.put ha' hok) fun c hc=>hg c (List.mem_cons_of_mem _ hc)
def onBlk (k:Nat) (cs:List Chg):List Chg:=cs.filter fun c=>decide (c.1=k)
theorem fold_block:∀ (cs:List Chg) (B:List Blk),(∀ c∈cs,c.1<B.length)→∀ k,(cs.foldl applyC B).getD k []=(onBlk k cs).foldl (fun l c=>setB l c.2.1 c.2.2.1 c.2.2.2) (B.getD k [])
 | [],B,_,k=>rfl
 | c::cs,B,h,k=>by
  have hc:=h c (by simp)
  have hl:(applyC B c).length=B.length:=by unfold applyC putF;rw [List.length_set]
  have ih:=fold_block cs (applyC B c) (fun c hc=>by rw [hl];exact h c (List.mem_cons_of_mem _ hc)) k
  rw [List.foldl_cons,ih]
  unfold onBlk
  rw [List.filter_cons]
  by_cases e:c.1=k
  ·rw [if_pos (decide_eq_true e),List.foldl_cons,←e]
   unfold applyC putF
   rw [getD_set_self hc]
  ·rw [if_neg (by rw [decide_eq_true_iff];exact e)]
   unfold applyC putF
   rw [getD_set_ne e]
theorem two_cases {α:Type} (l:List α) (h:l.length=2):∃ a b,l=[a,b]:=by
 match l,h with
 | [a,b],_=>exact ⟨a,b,rfl⟩
section
variable {B:List Blk} {cs:List Chg}
theorem blk_status (hw:∀ l∈B,wholeS l) (hg:∀ c∈cs,goodC B c) (hp:cs.Pairwise fun a b=>plF B a.1 a.2.1 a.2.2.1≠plF B b.1 b.2.1 b.2.2.1) {k:Nat} (hk:k<B.length) :
  (onBlk k cs=[]→(cs.foldl applyC B).getD k []=B.getD k [])∧
  (∀ c,onBlk k cs=[c]→lookS ((cs.foldl applyC B).getD k [])=(1,(c.2.1:Int),(c.2.2.1:Int))∧fixS ((cs.foldl applyC B).getD k [])=B.getD k [])∧
  ((onBlk k cs).length=2→lostS ((cs.foldl applyC B).getD k [])=true):=by
 have hs:∀ l∈B,shaped (wideL l) l:=fun l hl=>(hw l hl).1
 have hwk:=hw _ (getD_memB hk)
 have hfb:=fold_block cs B (fun c hc=>(hg c hc).1.hk) k
 have hmem:∀ c∈onBlk k cs,goodC B c∧c.1=k:=fun c hc=>by
  obtain ⟨h1,h2⟩:=List.mem_filter.1 hc
  exact ⟨hg c h1,of_decide_eq_true h2⟩
 have hin:∀ c:Chg,goodC B c→c.1=k→c.2.1<(B.getD k []).length∧c.2.2.1<wideL (B.getD k [])∧okB c.2.2.2=true∧c.2.2.2≠((B.getD k []).getD c.2.1 []).getD c.2.2.1 0:=fun c hc e=>by
  subst e
  exact ⟨hc.1.hr,(row_at hs hc.1).1,hc.2.1,hc.2.2⟩
 refine ⟨fun e=>?_,fun c e=>?_,fun e=>?_⟩
 ·rw [hfb,e]
  rfl
 ·obtain ⟨g1,g2⟩:=hmem c (by rw [e];simp)
  obtain ⟨i1,i2,i3,i4⟩:=hin c g1 g2
  rw [hfb,e]
  exact blk_one hwk i1 i2 i3 i4
 ·have hpf:(onBlk k cs).Pairwise fun a b=>plF B a.1 a.2.1 a.2.2.1≠plF B b.1 b.2.1 b.2.2.1:=hp.filter _
  obtain ⟨c,c',e2⟩:=two_cases _ e
  rw [e2] at hmem hpf
  obtain ⟨g1,g2⟩:=hmem c (by simp)
  obtain ⟨g1',g2'⟩:=hmem c' (by simp)
  obtain ⟨i1,i2,i3,i4⟩:=hin c g1 g2
  obtain ⟨j1,j2,j3,j4⟩:=hin c' g1' g2'
  rw [hfb,e2]
  refine blk_two hwk i1 i2 j1 j2 i3 j3 i4 j4 fun ⟨e3,e4⟩=>?_
  have:=(List.pairwise_cons.1 hpf).1 c' (by simp)
  exact this (by rw [e3,e4,g2,g2'])
end
def numsC (cs:List Chg):List Int:=cs.map fun c=>(c.1:Int)
theorem cnt_blk (cs:List Chg) (k:Nat):cntI (numsC cs) (k:Int)=(onBlk k cs).length:=by
 unfold cntI numsC onBlk
 rw [List.filter_map,List.length_map]
 congr 1
 exact List.filter_congr fun c _=>decide_eq_decide.2 (by show ((c.1:Nat):Int)=(k:Int)↔c.1=k;omega)
theorem often_fold (x:List Int):∀ (l:List Int) (m:Nat),m≤l.foldl (fun m v=>max m (cntI x v)) m∧(∀ v∈l,cntI x v≤l.foldl (fun m v=>max m (cntI x v)) m)∧(l.foldl (fun m v=>max m (cntI x v)) m=m∨∃ v∈l,cntI x v=l.foldl (fun m v=>max m (cntI x v)) m)
 | [],m=>⟨Nat.le_refl _,by simp,.inl rfl⟩
 | a::l,m=>by
  obtain ⟨h1,h2,h3⟩:=often_fold x l (max m (cntI x a))
  rw [List.foldl_cons]
  refine ⟨by omega,fun v hv=>?_,?_⟩
  ·rcases List.mem_cons.1 hv with rfl | hv
   ·omega
   ·exact h2 v hv
  ·rcases h3 with h3 | ⟨v,hv,h3⟩
   ·rcases Nat.lt_or_ge m (cntI x a) with k | k
    ·exact .inr ⟨a,by simp,by rw [h3];omega⟩
    ·exact .inl (by rw [h3];omega)
   ·exact .inr ⟨v,List.mem_cons_of_mem _ hv,h3⟩
theorem cnt_none {x:List Int} {v:Int} (h:v ∉ x):cntI x v=0:=by
 unfold cntI
 rw [List.length_eq_zero_iff,List.filter_eq_nil_iff]
 intro w hw e
 exact h (by rw [←of_decide_eq_true e];exact hw)
theorem often_le {x:List Int} {n:Nat} (h:oftenV x≤n) (v:Int):cntI x v≤n:=by
 by_cases hv:v∈x
 ·exact Nat.le_trans ((often_fold x x 0).2.1 v hv) h
 ·rw [cnt_none hv];exact Nat.zero_le _
structure Chgd (l:List (List UInt8)) (x:List (Int×Int)) (cs:List Chg):Prop where
 spots:x=cs.map (spotC ((chunks l).map blockS))
 good:∀ c∈cs,goodC ((chunks l).map blockS) c
 pw:cs.Pairwise fun a b=>plF ((chunks l).map blockS) a.1 a.2.1 a.2.2.1≠plF ((chunks l).map blockS) b.1 b.2.1 b.2.2.1
 val:changedV (fileS l) x=((cs.foldl applyC ((chunks l).map blockS)).flatMap textS,numsC cs,true)
 same:Same ((chunks l).map blockS) (cs.foldl applyC ((chunks l).map blockS))
theorem chgd_ex {l:List (List UInt8)} (hok:∀ t∈l,textOk t) {x:List (Int×Int)} (h:(changedV (fileS l) x).2.2=true):∃ cs,Chgd l x cs:=by
 obtain ⟨h1,h2,h3⟩:=changed_ok h
 have hs:=chunks_shaped hok
 rw [fileS_eq] at h1 h3
 obtain ⟨cs,e,hg⟩:=spots_ex hs x h1
 obtain ⟨f1,f2⟩:=fold_chg hs cs _ (Same.refl hs) hg
 refine ⟨cs,e,hg,?_,?_,f2⟩
 ·rw [e,List.pairwise_map] at h2
  exact h2.imp fun {a b} hab k=>hab (by unfold spotC;rw [k])
 ·rw [fileS_eq,h3,e,f1]
  congr 2
  unfold numsC
  rw [List.map_map]
  refine List.map_congr_left fun c hc=>?_
  show (numberV _ ((plF _ c.1 c.2.1 c.2.2.1:Nat):Int)).1=_
  rw [number_pl hs (hg c hc).1]
theorem chunks_whole {l:List (List UInt8)} (hok:∀ t∈l,textOk t):∀ b∈(chunks l).map blockS,wholeS b:=fun b hb=>⟨chunks_shaped hok b hb,written_look hok b hb⟩
theorem len_cases {α:Type} (l:List α) (h:l.length≤1):l=[]∨∃ c,l=[c]:=by
 match l,h with
 | [],_=>exact .inl rfl
 | [c],_=>exact .inr ⟨c,rfl⟩
section
variable {l:List (List UInt8)} {x:List (Int×Int)} {cs:List Chg}
theorem Chgd.one (h:Chgd l x cs) (hok:∀ t∈l,textOk t) {k:Nat} (hk:k<((chunks l).map blockS).length) (h1:(onBlk k cs).length≤1) :
  lostS ((cs.foldl applyC ((chunks l).map blockS)).getD k [])=false∧fixS ((cs.foldl applyC ((chunks l).map blockS)).getD k [])=((chunks l).map blockS).getD k []:=by
 obtain ⟨s1,s2,_⟩:=blk_status (chunks_whole hok) h.good h.pw hk
 have hw:=chunks_whole hok _ (getD_memB hk)
 rcases len_cases _ h1 with e | ⟨c,e⟩
 ·rw [s1 e]
  refine ⟨?_,written_fix hok _ (getD_memB hk)⟩
  unfold lostS
  rw [hw.2]
  exact decide_eq_false (by decide)
 ·obtain ⟨k1,k2⟩:=s2 c e
  refine ⟨?_,k2⟩
  unfold lostS
  rw [k1]
  exact decide_eq_false (by show ¬(1:Int)=2;decide)
theorem Chgd.two (h:Chgd l x cs) (hok:∀ t∈l,textOk t) {k:Nat} (hk:k<((chunks l).map blockS).length) (h2:(onBlk k cs).length=2):lostS ((cs.foldl applyC ((chunks l).map blockS)).getD k [])=true:=
 (blk_status (chunks_whole hok) h.good h.pw hk).2.2 h2
theorem Chgd.blocks (h:Chgd l x cs):blocksV (changedV (fileS l) x).1=(true,cs.foldl applyC ((chunks l).map blockS)):=by
 rw [h.val]
 exact blocks_file h.same.sh
end
theorem join_mix:∀ (X Y Z o:List Blk),X.length=Z.length→Y.length=Z.length→(∀ k,k<Z.length→((lostS (X.getD k [])=false∧fixS (X.getD k [])=Z.getD k [])∧(lostS (Y.getD k [])=false→fixS (Y.getD k [])=Z.getD k []))∨(lostS (X.getD k [])=true∧lostS (Y.getD k [])=false∧fixS (Y.getD k [])=Z.getD k []))→joinS X Y o=(0,o++Z)
 | [],Y,[],o,_,_,_=>by
  have e:joinS [] Y o=(0,o):=by cases Y<;>rfl
  rw [e,List.append_nil]
 | [],_,_::_,_,h,_,_=>by simp at h
 | _::_,_,[],_,h,_,_=>by simp at h
 | _::_,[],_::_,_,_,h,_=>by simp at h
 | x::X,y::Y,z::Z,o,h1,h2,h=>by
  have ih:=fun o=>join_mix X Y Z o (by simpa using h1) (by simpa using h2) fun k hk=>h (k+1) (by simpa using hk)
  have h0:=h 0 (by simp)
  simp only [List.getD_cons_zero] at h0
  have ez:∀ o:List Blk,o++[z]++Z=o++z::Z:=fun o=>by simp
  rw [joinS_cons]
  rcases h0 with ⟨⟨a1,a2⟩,a3⟩ | ⟨a1,a2,a3⟩
  ·rw [if_neg (fun k=>absurd (a1.symm.trans k.1) (by decide)),if_neg (by rw [a1];decide),if_neg (fun k=>k.2 (by rw [a2,a3 k.1])),ih,a2,ez]
  ·rw [if_neg (fun k=>absurd (a2.symm.trans k.2) (by decide)),if_pos a1,ih,a3,ez]
theorem chgd_join {l:List (List UInt8)} (hok:∀ t∈l,textOk t) (h40:l.length≤40) {x y:List (Int×Int)} {cs ds:List Chg} (hx:Chgd l x cs) (hy:Chgd l y ds)
  (h:∀ k,(onBlk k cs).length≤2∧(onBlk k ds).length≤2∧((onBlk k cs).length≤1∨(onBlk k ds).length≤1)):joinV (changedV (fileS l) x).1 (changedV (fileS l) y).1=(l,0):=by
 have hj:=join_mix (cs.foldl applyC ((chunks l).map blockS)) (ds.foldl applyC ((chunks l).map blockS)) ((chunks l).map blockS) [] hx.same.len hy.same.len fun k hk=>by
  obtain ⟨h1,h2,h3⟩:=h k
  by_cases c:(onBlk k cs).length≤1
  ·refine .inl ⟨hx.one hok hk c,fun hl=>?_⟩
   by_cases d:(onBlk k ds).length≤1
   ·exact (hy.one hok hk d).2
   ·have:=hy.two hok hk (by omega)
    rw [this] at hl
    cases hl
  ·exact .inr ⟨hx.two hok hk (by omega),hy.one hok hk (by omega)⟩
 unfold joinV
 rw [hx.blocks,hy.blocks]
 dsimp only
 rw [if_neg (by rintro (k | k | k);cases k;cases k;exact k (by rw [hx.same.len,hy.same.len])),hj,if_neg fun k=>k rfl,List.nil_append]
 dsimp only
 rw [texts_written hok h40]
 exact if_neg (show ¬true=false by decide)
end Go.Fer
namespace Go.Fer
open M (Step)
set_option linter.unusedVariables false
set_option linter.unusedSimpArgs false
theorem fold_setF_len:∀ (l:List (Int×Int)) (f:List UInt8),(l.foldl setF f).length=f.length
 | [],f=>rfl
 | s::l,f=>by
  rw [List.foldl_cons,fold_setF_len l]
  unfold setF
  rw [List.length_set]
theorem changedV_len (f:List UInt8) (l:List (Int×Int)):(changedV f l).1.length≤f.length:=by
 unfold changedV
 split
 ·exact Nat.zero_le _
 ·show (l.foldl setF f).length≤_
  rw [fold_setF_len]
  exact Nat.le_refl _
section
variable {l:List (List UInt8)} (hok:∀ t∈l,textOk t) (h40:l.length≤40)
include hok h40
theorem write_sh:fcWriteP.sh l=M.pure (fileS l,0):=(M.det_true (show l.length<2 ^ 63 by omega) _).trans (by show M.pure (writeV l)=_;rw [writeS_eq,writeS_ok hok h40])
theorem changed_sh {x:List (Int×Int)} (hx:x.length≤10):fcChanged.sh (fileS l,x)=M.pure (changedV (fileS l) x):=by
 have:=file_len hok h40
 exact M.det_true (show (fileS l).length<65536∧x.length<65536 by omega) _
theorem changed_small (x:List (Int×Int)):(changedV (fileS l) x).1.length<65536:=by
 have:=file_len hok h40
 have:=changedV_len (fileS l) x
 omega
end
theorem Chgd.len {l:List (List UInt8)} {x:List (Int×Int)} {cs:List Chg} (h:Chgd l x cs):cs.length=x.length:=by rw [h.spots,List.length_map]
theorem often_sh {l:List (List UInt8)} {x:List (Int×Int)} {cs:List Chg} (h:Chgd l x cs) (hx:x.length≤10):fcOften.sh (numsC cs)=M.pure (oftenV (numsC cs):Int):=
 M.det_true (show (numsC cs).length<65536 by unfold numsC;rw [List.length_map,h.len];omega) _
theorem isTexts_sh {x:List (List UInt8)} (h:x.length<2 ^ 63):fcIsTexts.sh x=M.pure (isTextsV x):=M.det_true (show x.length<2 ^ 63 from h) _
theorem lawCopies (x:List (List UInt8)×List (Int×Int)×List (Int×Int)×Bool) (h1:x.1.length<2 ^ 63):S_law14_FilesCopies fcIsTexts.sh fcWorks.sh fcWriteP.sh fcChanged.sh fcOften.sh fcSameT.sh fcJoin.sh x=M.pure true:=by
 obtain ⟨l,x,y,turned⟩:=x
 unfold S_law14_FilesCopies
 dsimp only
 rw [isTexts_sh h1,M.bind_pure,works_sh]
 by_cases hc:isTextsV l=true∧x.length≤10∧y.length≤10
 ·obtain ⟨ht,hx,hy⟩:=hc
  obtain ⟨hok,h40⟩:=isTexts_ok ht
  have hfl:=file_len hok h40
  rw [if_neg (by rw [ht,Bool.not_true,Bool.false_or,Bool.or_eq_true,decide_eq_true_iff,decide_eq_true_iff,ofNat_def,ofNat_def];omega),write_sh hok h40,M.bind_pure]
  dsimp only
  rw [if_neg (by rw [Bool.or_eq_true,decide_eq_true_iff,decide_eq_true_iff,ofNat_def];omega),changed_sh hok h40 hx,M.bind_pure,changed_sh hok h40 hy,M.bind_pure]
  by_cases hv:(changedV (fileS l) x).2.2=true∧(changedV (fileS l) y).2.2=true
  ·obtain ⟨hvx,hvy⟩:=hv
   obtain ⟨cs,hcx⟩:=chgd_ex hok hvx
   obtain ⟨ds,hdy⟩:=chgd_ex hok hvy
   have hbx:(changedV (fileS l) x).2.1=numsC cs:=by rw [hcx.val]
   have hby:(changedV (fileS l) y).2.1=numsC ds:=by rw [hdy.val]
   rw [hvx,hvy,hbx,hby,often_sh hcx hx,often_sh hdy hy]
   rw [show gdo (!(!true||!true)) (M.pure (oftenV (numsC cs):Int)) 0=M.pure (oftenV (numsC cs):Int) from rfl,M.bind_pure,M.gdo_pure,M.bind_pure]
   by_cases h2:oftenV (numsC cs)≤1∧oftenV (numsC ds)≤2
   ·obtain ⟨a1,a2⟩:=h2
    have d1:decide ((oftenV (numsC cs):Int) > 1)=false:=decide_eq_false (by omega)
    have hcnt:∀ k,(onBlk k cs).length≤1∧(onBlk k ds).length≤2:=fun k=>⟨by rw [←cnt_blk];exact often_le a1 _,by rw [←cnt_blk];exact often_le a2 _⟩
    have j1:=chgd_join hok h40 hcx hdy fun k=>⟨by have:=(hcnt k).1;omega,(hcnt k).2,.inl (hcnt k).1⟩
    have j2:=chgd_join hok h40 hdy hcx fun k=>⟨(hcnt k).2,by have:=(hcnt k).1;omega,.inr (hcnt k).1⟩
    have s1:=changed_small hok h40 x
    have s2:=changed_small hok h40 y
    rw [d1,if_neg (by
     rw [show (if (!(!true||!true||false))=true then (oftenV (numsC ds):Int) else 0)=(oftenV (numsC ds):Int) from rfl]
     show ¬decide ((oftenV (numsC ds):Int) > 2)=true
     rw [decide_eq_true_iff]
     omega)]
    have fin:∀ p q:List UInt8,fcJoin.sh (p,q)=M.pure (l,0)→M.bind (fcJoin.sh (p,q)) (fun y=>M.bind (gdo (decide (y.2=0)) (fcSameT.sh (y.1,l)) false) fun y_4=>M.bind (gdo (decide (y.2=0)&&y_4) (M.pure true) false) fun y_5=>M.pure (decide (y.2=0)&&y_4&&y_5))=M.pure true:=fun p q h=>by
     rw [h,M.bind_pure]
     dsimp only
     rw [sameT_sh h1 h1]
     simp only [decide_true,M.gdo_pure,M.bind_pure,Bool.and_true,if_true]
    cases turned with
    | true=>
     rw [if_pos rfl,M.bind_pure,M.go_next]
     exact fin _ _ ((M.det_true (show (changedV (fileS l) y).1.length<65536∧(changedV (fileS l) x).1.length<65536 from ⟨s2,s1⟩) _).trans (by show M.pure (joinV _ _)=_;rw [j2]))
    | false=>
     rw [if_neg (by decide),M.bind_pure,M.go_next]
     exact fin _ _ ((M.det_true (show (changedV (fileS l) x).1.length<65536∧(changedV (fileS l) y).1.length<65536 from ⟨s1,s2⟩) _).trans (by show M.pure (joinV _ _)=_;rw [j1]))
   ·by_cases a1:oftenV (numsC cs)≤1
    ·have d1:decide ((oftenV (numsC cs):Int) > 1)=false:=decide_eq_false (by omega)
     have a2:¬oftenV (numsC ds)≤2:=fun k=>h2 ⟨a1,k⟩
     rw [d1,if_pos (by
      show decide ((oftenV (numsC ds):Int) > 2)=true
      rw [decide_eq_true_iff]
      omega),M.bind_pure]
    ·have d1:decide ((oftenV (numsC cs):Int) > 1)=true:=decide_eq_true (by omega)
     rw [d1,if_pos (by rfl),M.bind_pure]
  ·have hvf:(!(changedV (fileS l) x).2.2||!(changedV (fileS l) y).2.2)=true:=by
    cases h1:(changedV (fileS l) x).2.2 with
    | false=>rfl
    | true=>cases h2:(changedV (fileS l) y).2.2 with
     | false=>rfl
     | true=>exact absurd ⟨h1,h2⟩ hv
   rw [hvf]
   rw [show gdo (!true) (fcOften.sh (changedV (fileS l) x).2.1) (0:Int)=M.pure 0 from rfl,M.bind_pure]
   rw [show gdo (!(true||decide ((0:Int) > 1))) (fcOften.sh (changedV (fileS l) y).2.1) (0:Int)=M.pure 0 from rfl,M.bind_pure,if_pos (by rfl),M.bind_pure]
 ·rw [if_pos (by
   cases ht:isTextsV l with
   | false=>rfl
   | true=>
    rw [Bool.not_true,Bool.false_or,Bool.or_eq_true,decide_eq_true_iff,decide_eq_true_iff,ofNat_def,ofNat_def]
    have:¬(x.length≤10∧y.length≤10):=fun k=>hc ⟨ht,k⟩
    omega),M.bind_pure]
end Go.Fer
namespace Go.Fer
open M (Step)
set_option linter.unusedVariables false
set_option linter.unusedSimpArgs false
section
variable {l:List (List UInt8)} {x:List (Int×Int)} {cs:List Chg}
theorem Chgd.mem_blk {k:Nat} (c:Chg):c∈onBlk k cs↔c∈cs∧c.1=k:=by
 unfold onBlk
 rw [List.mem_filter,decide_eq_true_iff]
theorem Chgd.look (h:Chgd l x cs) (hok:∀ t∈l,textOk t) (h1:∀ k,(onBlk k cs).length≤1) {c:Chg} (hc:c∈cs):lookS ((cs.foldl applyC ((chunks l).map blockS)).getD c.1 [])=(1,(c.2.1:Int),(c.2.2.1:Int)):=by
 have hk:=(h.good c hc).1.hk
 obtain ⟨_,s2,_⟩:=blk_status (chunks_whole hok) h.good h.pw hk
 have hm:c∈onBlk c.1 cs:=(Chgd.mem_blk c).2 ⟨hc,rfl⟩
 rcases len_cases _ (h1 c.1) with e | ⟨c',e⟩
 ·rw [e] at hm;cases hm
 ·have:c=c':=by rw [e] at hm;simpa using hm
  subst this
  exact (s2 c e).1
theorem Chgd.place (h:Chgd l x cs) (hok:∀ t∈l,textOk t) (h1:∀ k,(onBlk k cs).length≤1) {c:Chg} (hc:c∈cs):(placesV (cs.foldl applyC ((chunks l).map blockS))).getD c.1 0=((plF ((chunks l).map blockS) c.1 c.2.1 c.2.2.1:Nat):Int):=by
 have hk:=(h.good c hc).1.hk
 have hk2:c.1<(cs.foldl applyC ((chunks l).map blockS)).length:=by rw [h.same.len];exact hk
 have hl:=h.look hok h1 hc
 rw [placesV_get hk2,←h.same.pl (chunks_shaped hok) hk]
 unfold placeS plF
 rw [getD_B hk2] at hl ⊢
 rw [hl,if_pos rfl]
 dsimp only
 rw [Int.natCast_add,Int.natCast_add,Int.natCast_mul,Int.natCast_add]
 rfl
end
end Go.Fer
namespace Go.Fer.Sk
open Go.Proofs
open M (Step)
set_option maxRecDepth 100000
set_option linter.unusedVariables false
set_option linter.unusedSimpArgs false
def b_k44:Code:=Tryd.f44.body.getD .skip
theorem b_k44_ok:Tryd.f44.body=some b_k44:=by kernel_rfl
def Psi_k44 (k:Nat):Option KC:=none
theorem Psi_k44_ok:PsiOk Tryd.prog noU Psi_k44:=by
 intro k c h
 unfold Psi_k44 at h
 cases h
def ann_k44:Ann:=(.seq .leaf (.join ⟨[],[]⟩ (.seq .leaf (.block (.loop ⟨[(0,.val t22),(1,.val t44),(7,.val t3),(8,.val t3)],[]⟩ (.seq .leaf (.seq (.cond .leaf .leaf) (.seq (.block (.seq .leaf (.seq .leaf (.cond (.seq .leaf .leaf) .leaf)))) .leaf)))))) (.seq .leaf .leaf)))
theorem l_k44 (x):funI noU (tabT tab) noPhi Psi_k44 Tryd.f44 b_k44 ann_k44 (.prod t22 t44) t3 x=S_slices_IndexFunc_string_string  x:=by kernel_rfl
theorem spec_k44:FnSpec Tryd.prog 44 (.prod t22 t44) t3 (fcIndexFunc .str).sh:=
 fn_ok mixOk tabOk noU_ok noPhi_ok Psi_k44_ok Tryd.func44 b_k44_ok (by kernel_rfl) fun x=>M.le_trans (M.le_of_eq (l_k44 x)) (sIndexFuncT x)
def b_k27:Code:=Tryd.f27.body.getD .skip
theorem b_k27_ok:Tryd.f27.body=some b_k27:=by kernel_rfl
def Psi_k27 (k:Nat):Option KC:=if k=44 then some (.sc ⟨(.prod t22 t44),t3,(fcIndexFunc .str).sh,true⟩) else none
theorem Psi_k27_ok:PsiOk Tryd.prog noU Psi_k27:=by
 intro k c h
 unfold Psi_k27 at h
 split at h
 ·cases h;subst_vars;exact ⟨spec_k44,fun _ _=>M.det_det⟩
 cases h
def ann_k27:Ann:=(.seq .leaf (.seq .leaf .leaf))
theorem l_k27 (x):funI noU (tabT tab) noPhi Psi_k27 Tryd.f27 b_k27 ann_k27 (.prod t22 t44) t4 x=S_slices_ContainsFunc_string_string (fcIndexFunc .str).sh x:=by kernel_rfl
theorem spec_k27:FnSpec Tryd.prog 27 (.prod t22 t44) t4 (fcContainsFunc .str).sh:=
 fn_ok mixOk tabOk noU_ok noPhi_ok Psi_k27_ok Tryd.func27 b_k27_ok (by kernel_rfl) fun x=>M.le_trans (M.le_of_eq (l_k27 x)) (sContainsFuncT x)
def b_k28:Code:=Tryd.f28.body.getD .skip
theorem b_k28_ok:Tryd.f28.body=some b_k28:=by kernel_rfl
def Psi_k28 (k:Nat):Option KC:=if k=29 then some (.sc ⟨t9,t4,fcIsT.sh,true⟩) else none
theorem Psi_k28_ok:PsiOk Tryd.prog noU Psi_k28:=by
 intro k c h
 unfold Psi_k28 at h
 split at h
 ·cases h;subst_vars;exact ⟨spec_k29,fun _ _=>M.det_det⟩
 cases h
def ann_k28:Ann:=(.seq .leaf (.seq .leaf .leaf))
theorem l_k28 (x):funI noU (tabT tab) noPhi Psi_k28 Tryd.f28 b_k28 ann_k28 t9 t4 x=S_files_Write_c1 fcIsT.sh x:=by kernel_rfl
theorem spec_k28:FnSpec Tryd.prog 28 t9 t4 fcBadT.sh:=
 fn_ok mixOk tabOk noU_ok noPhi_ok Psi_k28_ok Tryd.func28 b_k28_ok (by kernel_rfl) fun x=>M.le_trans (M.le_of_eq (l_k28 x)) (sBadT x)
def b_kbstr:Code:=Tryd.f48.body.getD .skip
theorem b_kbstr_ok:Tryd.f48.body=some b_kbstr:=by kernel_rfl
def Psi_kbstr (k:Nat):Option KC:=none
theorem Psi_kbstr_ok:PsiOk Tryd.prog noU Psi_kbstr:=by
 intro k c h
 unfold Psi_kbstr at h
 cases h
def ioc_bstr:IOC:=⟨⟨[(0,.loc 100001 0)],[(100001,.cells t84 [.nos 100001,.own 100002]),(100002,.arr t5)]⟩,⟨[(0,.val t9)],[(100001,.cells t84 [.nos 100001,.undef])]⟩,[none],1,shBStr⟩
def ann_kbstr:Ann:=(.seq .leaf (.seq .leaf .leaf))
theorem l_kbstr (x):funIO noU (tabT tab) noPhi Psi_kbstr Tryd.f48 b_kbstr ann_kbstr ⟨[(0,.loc 100001 0)],[(100001,.cells t84 [.nos 100001,.own 100002]),(100002,.arr t5)]⟩ ⟨[(0,.val t9)],[(100001,.cells t84 [.nos 100001,.undef])]⟩ [none] x=S_io_bstr  x:=by kernel_rfl
theorem io_bstr:IoSpec Tryd.prog noU 48 ioc_bstr:=
 fnIO_ok mixOk tabOk noPhi_ok Psi_kbstr_ok Tryd.func48 b_kbstr_ok (by kernel_rfl) fun x=>M.le_trans (M.le_of_eq (l_kbstr x)) (sBStr x)
def b_kwrite:Code:=Tryd.f63.body.getD .skip
theorem b_kwrite_ok:Tryd.f63.body=some b_kwrite:=by kernel_rfl
def Psi_kwrite (k:Nat):Option KC:=if k=67 then some (.io ioc_ccheck) else none
theorem Psi_kwrite_ok:PsiOk Tryd.prog noU Psi_kwrite:=by
 intro k c h
 unfold Psi_kwrite at h
 split at h
 ·cases h;subst_vars;exact io_ccheck
 cases h
def ioc_write:IOC:=⟨⟨[(0,.loc 100001 0),(1,.val t55)],[(100001,.cells t84 [.nos 100001,.own 100002]),(100002,.arr t5)]⟩,⟨[(0,.val t3)],[(100001,.cells t84 [.nos 100001,.own 100002]),(100002,.arr t5)]⟩,[none,none],2,shWrite⟩
def ann_kwrite:Ann:=(.seq .leaf (.seq .leaf (.seq .leaf (.seq .leaf .leaf))))
theorem l_kwrite (x):funIO noU (tabT tab) noPhi Psi_kwrite Tryd.f63 b_kwrite ann_kwrite ⟨[(0,.loc 100001 0),(1,.val t55)],[(100001,.cells t84 [.nos 100001,.own 100002]),(100002,.arr t5)]⟩ ⟨[(0,.val t3)],[(100001,.cells t84 [.nos 100001,.own 100002]),(100002,.arr t5)]⟩ [none,none] x=S_io_write shCopyC x:=by kernel_rfl
theorem io_write:IoSpec Tryd.prog noU 63 ioc_write:=
 fnIO_ok mixOk tabOk noPhi_ok Psi_kwrite_ok Tryd.func63 b_kwrite_ok (by kernel_rfl) fun x=>M.le_trans (M.le_of_eq (l_kwrite x)) (sWrite x)
def b_kwbyte:Code:=Tryd.f64.body.getD .skip
theorem b_kwbyte_ok:Tryd.f64.body=some b_kwbyte:=by kernel_rfl
def Psi_kwbyte (k:Nat):Option KC:=if k=67 then some (.io ioc_ccheck) else none
theorem Psi_kwbyte_ok:PsiOk Tryd.prog noU Psi_kwbyte:=by
 intro k c h
 unfold Psi_kwbyte at h
 split at h
 ·cases h;subst_vars;exact io_ccheck
 cases h
def ioc_wbyte:IOC:=⟨⟨[(0,.loc 100001 0),(1,.val t5)],[(100001,.cells t84 [.nos 100001,.own 100002]),(100002,.arr t5)]⟩,⟨[],[(100001,.cells t84 [.nos 100001,.own 100002]),(100002,.arr t5)]⟩,[none],2,shWByte⟩
def ann_kwbyte:Ann:=(.seq .leaf (.seq .leaf (.seq .leaf (.seq .leaf .leaf))))
theorem l_kwbyte (x):funIO noU (tabT tab) noPhi Psi_kwbyte Tryd.f64 b_kwbyte ann_kwbyte ⟨[(0,.loc 100001 0),(1,.val t5)],[(100001,.cells t84 [.nos 100001,.own 100002]),(100002,.arr t5)]⟩ ⟨[],[(100001,.cells t84 [.nos 100001,.own 100002]),(100002,.arr t5)]⟩ [none] x=S_io_wbyte shCopyC x:=by kernel_rfl
theorem io_wbyte:IoSpec Tryd.prog noU 64 ioc_wbyte:=
 fnIO_ok mixOk tabOk noPhi_ok Psi_kwbyte_ok Tryd.func64 b_kwbyte_ok (by kernel_rfl) fun x=>M.le_trans (M.le_of_eq (l_kwbyte x)) (sWByte x)
def b_k42:Code:=Tryd.f42.body.getD .skip
theorem b_k42_ok:Tryd.f42.body=some b_k42:=by kernel_rfl
def Psi_k42 (k:Nat):Option KC:=if k=48 then some (.io ioc_bstr) else if k=63 then some (.io ioc_write) else if k=64 then some (.io ioc_wbyte) else none
theorem Psi_k42_ok:PsiOk Tryd.prog noU Psi_k42:=by
 intro k c h
 unfold Psi_k42 at h
 split at h
 ·cases h;subst_vars;exact io_bstr
 split at h
 ·cases h;subst_vars;exact io_write
 split at h
 ·cases h;subst_vars;exact io_wbyte
 cases h
def ann_k42:Ann:=(.seq .leaf (.join ⟨[(0,.val t63),(3,.loc 3 0)],[(3,.cells t84 [.nos 3,.own 30000]),(30000,.arr t5)]⟩ .leaf (.join ⟨[(3,.loc 3 0)],[(3,.cells t84 [.nos 3,.own 30000]),(30000,.arr t5)]⟩ (.seq .leaf (.block (.loop ⟨[(3,.loc 3 0),(6,.val t63),(7,.val t3),(8,.val t3)],[(3,.cells t84 [.nos 3,.own 30000]),(30000,.arr t5)]⟩ (.seq .leaf (.seq (.cond .leaf .leaf) (.seq (.block (.seq .leaf (.seq .leaf .leaf))) .leaf)))))) (.seq .leaf (.seq .leaf .leaf)))))
theorem l_k42 (x):funI noU (tabT tab) noPhi Psi_k42 Tryd.f42 b_k42 ann_k42 t63 t9 x=S_files_block_text shBStr shWrite shWByte x:=by kernel_rfl
theorem spec_k42:FnSpec Tryd.prog 42 t63 t9 fcText.sh:=
 fn_ok mixOk tabOk noU_ok noPhi_ok Psi_k42_ok Tryd.func42 b_k42_ok (by kernel_rfl) fun x=>M.le_trans (M.le_of_eq (l_k42 x)) (sText x)
def b_kchunk:Code:=Tryd.f66.body.getD .skip
theorem b_kchunk_ok:Tryd.f66.body=some b_kchunk:=by kernel_rfl
def Psi_kchunk (k:Nat):Option KC:=none
theorem Psi_kchunk_ok:PsiOk Tryd.prog noU Psi_kchunk:=by
 intro k c h
 unfold Psi_kchunk at h
 cases h
def ioc_chunk:IOC:=⟨⟨[(0,.yld),(1,.pp t22),(2,.pp t3),(1000000,.tr t22)],[]⟩,⟨[(1000000,.tr t22)],[]⟩,[],3,S_io_chunk⟩
def ann_kchunk:Ann:=(.seq .leaf (.block (.loop ⟨[(0,.yld),(1,.pp t22),(2,.pp t3),(4,.val t3),(1000000,.tr t22)],[]⟩ (.seq (.seq .leaf (.cond .leaf .leaf)) (.seq (.block (.seq .leaf (.seq .leaf (.cond .leaf .leaf)))) .leaf)))))
theorem l_kchunk (x):funIO noU (tabT tab) noPhi Psi_kchunk Tryd.f66 b_kchunk ann_kchunk ⟨[(0,.yld),(1,.pp t22),(2,.pp t3),(1000000,.tr t22)],[]⟩ ⟨[(1000000,.tr t22)],[]⟩ [] x=S_io_chunk  x:=by kernel_rfl
theorem io_chunk:IoSpec Tryd.prog noU 66 ioc_chunk:=
 fnIO_ok mixOk tabOk noPhi_ok Psi_kchunk_ok Tryd.func66 b_kchunk_ok (by kernel_rfl) fun x=>M.le_trans (M.le_of_eq (l_kchunk x)) (M.le_refl <| S_io_chunk x)
theorem cit_66:CItSpec Tryd.prog 66 ⟨[t22,t3],t22,chunkS⟩:=cit_of_io (c:=ioc_chunk) io_chunk noU_ok (fun x l L=>(l,x.1.getD [],x.2.getD 0,(l,L,[],false),())) rfl (by decide) (by simp [tupT])
 (fun x l L i hx=>by
  obtain ⟨T,hT⟩:=hx
  obtain ⟨s,hm,hs,_⟩:=hT
  subst hm
  by_cases h0:i=0
  ·subst h0;exact .inr (.inr (.inl ⟨rfl,rfl⟩))
  ·by_cases h1:i=1
   ·subst h1;exact .inr (.inl ⟨by decide,by decide,_,_,rfl,rfl⟩)
   by_cases h3:i=2
   ·subst h3;exact .inr (.inl ⟨by decide,by decide,_,_,rfl,rfl⟩)
   by_cases h2:i=TRS
   ·subst h2;exact .inr (.inr (.inr ⟨rfl,rfl⟩))
   ·refine .inl ?_
    exact (if_neg h0).trans ((if_neg h1).trans ((if_neg h3).trans (if_neg h2))))
 rfl (fun τ=>⟨_,_,_,_,rfl⟩) (fun x l hx=>by
  obtain ⟨T,hT⟩:=hx
  obtain ⟨s,hm,hs,_⟩:=hT
  subst hm
  have h:=sChunkIO l s hs
  refine ⟨h.1,fun τ hτ l' L' p hsl=>?_⟩
  have e:AV.tr τ.1.1 t22 τ.1.2.1 τ.1.2.2.1 τ.1.2.2.2=.tr l' t22 L' p false:=hsl
  injection e with e1 e2 e3 e4 e5
  rw [←e4]
  exact h.2 τ hτ e5)
def b_k45:Code:=Tryd.f45.body.getD .skip
theorem b_k45_ok:Tryd.f45.body=some b_k45:=by kernel_rfl
def U_k45:FnTab:={ fnv:=fun k=>none,clv:=fun k=>none,itv:=fun k=>if k=66 then some ⟨[t22,t3],t22,chunkS⟩ else none }
theorem U_k45_ok:FnTabOk Tryd.prog U_k45 where
 fnv:=by
  intro k v h
  simp only [U_k45] at h
  cases h
 clv:=by
  intro k v h
  simp only [U_k45] at h
  cases h
 itv:=by
  intro k v h
  simp only [U_k45] at h
  split at h
  ·cases h;subst_vars;exact cit_66
  cases h
def Psi_k45 (k:Nat):Option KC:=none
theorem Psi_k45_ok:PsiOk Tryd.prog U_k45 Psi_k45:=by
 intro k c h
 unfold Psi_k45 at h
 cases h
def ann_k45:Ann:=(.seq .leaf (.join ⟨[(2,.loc 2 0),(3,.loc 3 0)],[(2,.cells t22 [.val t22]),(3,.cells t3 [.val t3])]⟩ (.seq .leaf (.cond .leaf .leaf)) (.seq .leaf .leaf)))
theorem l_k45 (x):funI U_k45 (tabT tab) noPhi Psi_k45 Tryd.f45 b_k45 ann_k45 (.prod t22 t3) t86 x=S_slices_Chunk_string_string chunkS x:=by kernel_rfl
theorem spec_k45:FnSpec Tryd.prog 45 (.prod t22 t3) t86 fcChunk.sh:=
 fn_ok mixOk tabOk U_k45_ok noPhi_ok Psi_k45_ok Tryd.func45 b_k45_ok (by kernel_rfl) fun x=>M.le_trans (M.le_of_eq (l_k45 x)) (sChunk x)
def b_kwstr:Code:=Tryd.f46.body.getD .skip
theorem b_kwstr_ok:Tryd.f46.body=some b_kwstr:=by kernel_rfl
def Psi_kwstr (k:Nat):Option KC:=if k=67 then some (.io ioc_ccheck) else none
theorem Psi_kwstr_ok:PsiOk Tryd.prog noU Psi_kwstr:=by
 intro k c h
 unfold Psi_kwstr at h
 split at h
 ·cases h;subst_vars;exact io_ccheck
 cases h
def ioc_wstr:IOC:=⟨⟨[(0,.loc 100001 0),(1,.val t9)],[(100001,.cells t84 [.nos 100001,.own 100002]),(100002,.arr t5)]⟩,⟨[(0,.val t3)],[(100001,.cells t84 [.nos 100001,.own 100002]),(100002,.arr t5)]⟩,[none,none],2,shWStr⟩
def ann_kwstr:Ann:=(.seq .leaf (.seq .leaf (.seq .leaf (.seq .leaf .leaf))))
theorem l_kwstr (x):funIO noU (tabT tab) noPhi Psi_kwstr Tryd.f46 b_kwstr ann_kwstr ⟨[(0,.loc 100001 0),(1,.val t9)],[(100001,.cells t84 [.nos 100001,.own 100002]),(100002,.arr t5)]⟩ ⟨[(0,.val t3)],[(100001,.cells t84 [.nos 100001,.own 100002]),(100002,.arr t5)]⟩ [none,none] x=S_io_wstr shCopyC x:=by kernel_rfl
theorem io_wstr:IoSpec Tryd.prog noU 46 ioc_wstr:=
 fnIO_ok mixOk tabOk noPhi_ok Psi_kwstr_ok Tryd.func46 b_kwstr_ok (by kernel_rfl) fun x=>M.le_trans (M.le_of_eq (l_kwstr x)) (sWStr x)
def b_kadd:Code:=Tryd.f73.body.getD .skip
theorem b_kadd_ok:Tryd.f73.body=some b_kadd:=by kernel_rfl
def Psi_kadd (k:Nat):Option KC:=none
theorem Psi_kadd_ok:PsiOk Tryd.prog noU Psi_kadd:=by
 intro k c h
 unfold Psi_kadd at h
 cases h
def ioc_add:IOC:=⟨⟨[(0,.loc 100000 0),(1,.val t5)],[(100000,.cells t3 [.val t3])]⟩,⟨[],[(100000,.cells t3 [.val t3])]⟩,[],2,shAdd⟩
def ann_kadd:Ann:=.leaf
theorem l_kadd (x):funIO noU (tabT tab) noPhi Psi_kadd Tryd.f73 b_kadd ann_kadd ⟨[(0,.loc 100000 0),(1,.val t5)],[(100000,.cells t3 [.val t3])]⟩ ⟨[],[(100000,.cells t3 [.val t3])]⟩ [] x=S_io_add  x:=by kernel_rfl
theorem io_add:IoSpec Tryd.prog noU 73 ioc_add:=
 fnIO_ok mixOk tabOk noPhi_ok Psi_kadd_ok Tryd.func73 b_kadd_ok (by kernel_rfl) fun x=>M.le_trans (M.le_of_eq (l_kadd x)) (sAdd x)
def b_k68:Code:=Tryd.f68.body.getD .skip
theorem b_k68_ok:Tryd.f68.body=some b_k68:=by kernel_rfl
def Psi_k68 (k:Nat):Option KC:=none
theorem Psi_k68_ok:PsiOk Tryd.prog noU Psi_k68:=by
 intro k c h
 unfold Psi_k68 at h
 cases h
def ann_k68:Ann:=(.seq .leaf (.seq .leaf .leaf))
theorem l_k68 (x):funI noU (tabT tab) noPhi Psi_k68 Tryd.f68 b_k68 ann_k68 t3 t5 x=S_files_written  x:=by kernel_rfl
theorem spec_k68:FnSpec Tryd.prog 68 t3 t5 fcWrittenP.sh:=
 fn_ok mixOk tabOk noU_ok noPhi_ok Psi_k68_ok Tryd.func68 b_k68_ok (by kernel_rfl) fun x=>M.le_trans (M.le_of_eq (l_k68 x)) (sWrittenP x)
def b_k74:Code:=Tryd.f74.body.getD .skip
theorem b_k74_ok:Tryd.f74.body=some b_k74:=by kernel_rfl
def Psi_k74 (k:Nat):Option KC:=if k=68 then some (.sc ⟨t3,t5,fcWrittenP.sh,true⟩) else none
theorem Psi_k74_ok:PsiOk Tryd.prog noU Psi_k74:=by
 intro k c h
 unfold Psi_k74 at h
 split at h
 ·cases h;subst_vars;exact ⟨spec_k68,fun _ _=>M.det_det⟩
 cases h
def ann_k74:Ann:=(.seq .leaf (.seq .leaf .leaf))
theorem l_k74 (x):funI noU (tabT tab) noPhi Psi_k74 Tryd.f74 b_k74 ann_k74 t115 t5 x=S_files_sum_char fcWrittenP.sh x:=by kernel_rfl
theorem spec_k74:FnSpec Tryd.prog 74 t115 t5 fcWrittenP.sh:=
 fn_ok mixOk tabOk noU_ok noPhi_ok Psi_k74_ok Tryd.func74 b_k74_ok (by kernel_rfl) fun x=>M.le_trans (M.le_of_eq (l_k74 x)) (sChar x)
def b_k53:Code:=Tryd.f53.body.getD .skip
theorem b_k53_ok:Tryd.f53.body=some b_k53:=by kernel_rfl
def Psi_k53 (k:Nat):Option KC:=if k=73 then some (.io ioc_add) else if k=74 then some (.sc ⟨t115,t5,fcWrittenP.sh,true⟩) else none
theorem Psi_k53_ok:PsiOk Tryd.prog noU Psi_k53:=by
 intro k c h
 unfold Psi_k53 at h
 split at h
 ·cases h;subst_vars;exact io_add
 split at h
 ·cases h;subst_vars;exact ⟨spec_k74,fun _ _=>M.det_det⟩
 cases h
def ann_k53:Ann:=(.seq .leaf (.seq .leaf (.join ⟨[(3,.loc 3 0)],[(3,.cells t3 [.val t3])]⟩ (.seq .leaf (.block (.loop ⟨[(3,.loc 3 0),(6,.val t55),(7,.val t3),(8,.val t3)],[(3,.cells t3 [.val t3])]⟩ (.seq .leaf (.seq (.cond .leaf .leaf) (.seq (.block (.seq .leaf .leaf)) .leaf)))))) (.seq .leaf .leaf))))
theorem l_k53 (x):funI noU (tabT tab) noPhi Psi_k53 Tryd.f53 b_k53 ann_k53 t55 t5 x=S_files_check shAdd fcWrittenP.sh x:=by kernel_rfl
theorem spec_k53:FnSpec Tryd.prog 53 t55 t5 fcCheckP.sh:=
 fn_ok mixOk tabOk noU_ok noPhi_ok Psi_k53_ok Tryd.func53 b_k53_ok (by kernel_rfl) fun x=>M.le_trans (M.le_of_eq (l_k53 x)) (sCheckP x)
def b_kcolumn:Code:=Tryd.f54.body.getD .skip
theorem b_kcolumn_ok:Tryd.f54.body=some b_kcolumn:=by kernel_rfl
def Psi_kcolumn (k:Nat):Option KC:=none
theorem Psi_kcolumn_ok:PsiOk Tryd.prog noU Psi_kcolumn:=by
 intro k c h
 unfold Psi_kcolumn at h
 cases h
def ioc_column:IOC:=⟨⟨[(0,.own 200001),(1,.val t3),(2,.val t3)],[(200001,.arr t55)]⟩,⟨[(0,.own 7)],[(7,.arr t5),(200001,.arr t55)]⟩,[none],3,shColumn⟩
def ann_kcolumn:Ann:=(.seq .leaf (.seq .leaf (.join ⟨[(7,.own 7)],[(7,.arr t5),(200001,.arr t55)]⟩ (.seq .leaf (.block (.loop ⟨[(1,.val t3),(7,.own 7),(15,.sub 200001),(16,.val t3),(17,.val t3)],[(7,.arr t5),(200001,.arr t55)]⟩ (.seq .leaf (.seq (.cond .leaf .leaf) (.seq (.block (.seq .leaf .leaf)) .leaf)))))) (.seq .leaf .leaf))))
theorem l_kcolumn (x):funIO noU (tabT tab) noPhi Psi_kcolumn Tryd.f54 b_kcolumn ann_kcolumn ⟨[(0,.own 200001),(1,.val t3),(2,.val t3)],[(200001,.arr t55)]⟩ ⟨[(0,.own 7)],[(7,.arr t5),(200001,.arr t55)]⟩ [none] x=S_io_column  x:=by kernel_rfl
theorem io_column:IoSpec Tryd.prog noU 54 ioc_column:=
 fnIO_ok mixOk tabOk noPhi_ok Psi_kcolumn_ok Tryd.func54 b_kcolumn_ok (by kernel_rfl) fun x=>M.le_trans (M.le_of_eq (l_kcolumn x)) (sColumnIO x)
def b_k47:Code:=Tryd.f47.body.getD .skip
theorem b_k47_ok:Tryd.f47.body=some b_k47:=by kernel_rfl
def Psi_k47 (k:Nat):Option KC:=if k=53 then some (.sc ⟨t55,t5,fcCheckP.sh,true⟩) else if k=54 then some (.io ioc_column) else if k=68 then some (.sc ⟨t3,t5,fcWrittenP.sh,true⟩) else if k=69 then some (.sc ⟨(.prod t9 t3),t9,fcRep.sh,true⟩) else none
theorem Psi_k47_ok:PsiOk Tryd.prog noU Psi_k47:=by
 intro k c h
 unfold Psi_k47 at h
 split at h
 ·cases h;subst_vars;exact ⟨spec_k53,fun _ _=>M.det_det⟩
 split at h
 ·cases h;subst_vars;exact io_column
 split at h
 ·cases h;subst_vars;exact ⟨spec_k68,fun _ _=>M.det_det⟩
 split at h
 ·cases h;subst_vars;exact ⟨spec_k69,fun _ _=>M.det_det⟩
 cases h
def ann_k47:Ann:=(.seq .leaf (.seq .leaf (.seq .leaf (.join ⟨[(0,.val t22),(3,.own 3),(4,.val t3)],[(3,.arr t55)]⟩ (.seq .leaf (.block (.loop ⟨[(0,.val t22),(3,.own 3),(4,.val t3),(12,.val t22),(13,.val t3),(14,.val t3)],[(3,.arr t55)]⟩ (.seq .leaf (.seq (.cond .leaf .leaf) (.seq (.block (.seq .leaf .leaf)) .leaf)))))) (.join ⟨[(3,.own 3),(4,.val t3)],[(3,.arr t55)]⟩ (.seq .leaf (.block (.loop ⟨[(3,.own 3),(4,.val t3),(23,.val t22),(24,.val t3),(25,.val t3)],[(3,.arr t55)]⟩ (.seq .leaf (.seq (.cond .leaf .leaf) (.seq (.block (.seq .leaf (.seq .leaf .leaf))) .leaf)))))) (.seq .leaf (.join ⟨[(3,.own 3),(10,.own 10)],[(3,.arr t55),(10,.arr t5)]⟩ (.seq .leaf (.block (.loop ⟨[(3,.own 3),(10,.own 10),(51,.val t3),(52,.val t3)],[(3,.arr t55),(10,.arr t5)]⟩ (.seq .leaf (.seq (.cond .leaf .leaf) (.seq (.block (.seq .leaf .leaf)) .leaf)))))) (.seq .leaf .leaf))))))))
theorem l_k47 (x):funI noU (tabT tab) noPhi Psi_k47 Tryd.f47 b_k47 ann_k47 t22 t63 x=S_files_makeBlock fcCheckP.sh shColumn fcWrittenP.sh fcRep.sh x:=by kernel_rfl
theorem spec_k47:FnSpec Tryd.prog 47 t22 t63 fcMakeBlock.sh:=
 fn_ok mixOk tabOk noU_ok noPhi_ok Psi_k47_ok Tryd.func47 b_k47_ok (by kernel_rfl) fun x=>M.le_trans (M.le_of_eq (l_k47 x)) (sMakeBlock x)
def b_k30:Code:=Tryd.f30.body.getD .skip
theorem b_k30_ok:Tryd.f30.body=some b_k30:=by kernel_rfl
def Psi_k30 (k:Nat):Option KC:=if k=42 then some (.sc ⟨t63,t9,fcText.sh,true⟩) else if k=45 then some (.sc ⟨(.prod t22 t3),t86,fcChunk.sh,true⟩) else if k=46 then some (.io ioc_wstr) else if k=47 then some (.sc ⟨t22,t63,fcMakeBlock.sh,true⟩) else if k=48 then some (.io ioc_bstr) else none
theorem Psi_k30_ok:PsiOk Tryd.prog noU Psi_k30:=by
 intro k c h
 unfold Psi_k30 at h
 split at h
 ·cases h;subst_vars;exact ⟨spec_k42,fun _ _=>M.det_det⟩
 split at h
 ·cases h;subst_vars;exact ⟨spec_k45,fun _ _=>M.det_det⟩
 split at h
 ·cases h;subst_vars;exact io_wstr
 split at h
 ·cases h;subst_vars;exact ⟨spec_k47,fun _ _=>M.det_det⟩
 split at h
 ·cases h;subst_vars;exact io_bstr
 cases h
def ann_k30:Ann:=(.seq .leaf (.join ⟨[(0,.val t22),(3,.loc 3 0)],[(3,.cells t84 [.nos 3,.own 30000]),(30000,.arr t5)]⟩ .leaf (.seq (.seq .leaf (.block (.range ⟨[(3,.loc 3 0)],[(3,.cells t84 [.nos 3,.own 30000]),(30000,.arr t5)]⟩ ⟨[(3,.loc 100003 0),(7,.val t22)],[(100003,.cells t84 [.nos 100003,.own 130000]),(130000,.arr t5)]⟩ ⟨[],[(100003,.cells t84 [.nos 100003,.own 130000]),(130000,.arr t5)]⟩ .leaf (.block .leaf)))) (.seq .leaf .leaf))))
theorem l_k30 (x):funI noU (tabT tab) noPhi Psi_k30 Tryd.f30 b_k30 ann_k30 t22 t9 x=S_files_file fcText.sh fcChunk.sh shWStr fcMakeBlock.sh shBStr x:=by kernel_rfl
theorem spec_k30:FnSpec Tryd.prog 30 t22 t9 fcFile.sh:=
 fn_ok mixOk tabOk noU_ok noPhi_ok Psi_k30_ok Tryd.func30 b_k30_ok (by kernel_rfl) fun x=>M.le_trans (M.le_of_eq (l_k30 x)) (sFile x)
def b_k12:Code:=Tryd.f12.body.getD .skip
theorem b_k12_ok:Tryd.f12.body=some b_k12:=by kernel_rfl
def U_k12:FnTab:={ fnv:=fun k=>if k=28 then some ⟨t9,t4,fcBadT.sh⟩ else none,clv:=fun k=>none }
theorem U_k12_ok:FnTabOk Tryd.prog U_k12 where
 fnv:=by
  intro k v h
  simp only [U_k12] at h
  split at h
  ·cases h;subst_vars;exact spec_k28
  cases h
 clv:=by
  intro k v h
  simp only [U_k12] at h
  cases h
def Psi_k12 (k:Nat):Option KC:=if k=27 then some (.sc ⟨(.prod t22 t44),t4,(fcContainsFunc .str).sh,true⟩) else if k=30 then some (.sc ⟨t22,t9,fcFile.sh,true⟩) else none
theorem Psi_k12_ok:PsiOk Tryd.prog U_k12 Psi_k12:=by
 intro k c h
 unfold Psi_k12 at h
 split at h
 ·cases h;subst_vars;exact ⟨spec_k27,fun _ _=>M.det_det⟩
 split at h
 ·cases h;subst_vars;exact ⟨spec_k30,fun _ _=>M.det_det⟩
 cases h
def ann_k12:Ann:=(.seq .leaf (.seq (.seq .leaf (.cond (.seq .leaf .leaf) .leaf)) (.seq (.seq .leaf (.cond (.seq .leaf .leaf) .leaf)) (.seq .leaf .leaf))))
theorem l_k12 (x):funI U_k12 (tabT tab) noPhi Psi_k12 Tryd.f12 b_k12 ann_k12 t22 (.prod t9 t26) x=S_files_Write (fcContainsFunc .str).sh fcFile.sh fcBadT.sh x:=by kernel_rfl
theorem spec_k12:FnSpec Tryd.prog 12 t22 (.prod t9 t26) fcWriteP.sh:=
 fn_ok mixOk tabOk U_k12_ok noPhi_ok Psi_k12_ok Tryd.func12 b_k12_ok (by kernel_rfl) fun x=>M.le_trans (M.le_of_eq (l_k12 x)) (sWriteP x)
def b_k51:Code:=Tryd.f51.body.getD .skip
theorem b_k51_ok:Tryd.f51.body=some b_k51:=by kernel_rfl
def Psi_k51 (k:Nat):Option KC:=if k=29 then some (.sc ⟨t9,t4,fcIsT.sh,true⟩) else none
theorem Psi_k51_ok:PsiOk Tryd.prog noU Psi_k51:=by
 intro k c h
 unfold Psi_k51 at h
 split at h
 ·cases h;subst_vars;exact ⟨spec_k29,fun _ _=>M.det_det⟩
 cases h
def ann_k51:Ann:=(.seq .leaf (.seq .leaf .leaf))
theorem l_k51 (x):codeI noU (tabT tab) noPhi Psi_k51 ann_k51 b_k51 (capsSt 1 (parSt (.prod t55 (.ptr t3)) x)) (retI (tabT tab) Tryd.f51.results.toList t4)=S_files_cut_c1 fcIsT.sh x:=by kernel_rfl
theorem spec_k51:FnSpec Tryd.prog 51 (.prod t55 (.ptr t3)) t4 fcOdd.sh:=
 fnC_ok (n:=1) mixOk tabOk noU_ok noPhi_ok Psi_k51_ok Tryd.func51 b_k51_ok (by kernel_rfl) fun x=>M.le_req (fun h=>by obtain ⟨w,hw⟩:=h;exact caps_pre ⟨trivial,isSome_of hw⟩) (M.le_trans (M.le_of_eq (l_k51 x)) (sOdd x))
def b_k72:Code:=Tryd.f72.body.getD .skip
theorem b_k72_ok:Tryd.f72.body=some b_k72:=by kernel_rfl
def Psi_k72 (k:Nat):Option KC:=none
theorem Psi_k72_ok:PsiOk Tryd.prog noU Psi_k72:=by
 intro k c h
 unfold Psi_k72 at h
 cases h
def ann_k72:Ann:=(.seq .leaf (.join ⟨[],[]⟩ (.seq .leaf (.block (.loop ⟨[(0,.val t63),(1,.val t96),(7,.val t3),(8,.val t3)],[]⟩ (.seq .leaf (.seq (.cond .leaf .leaf) (.seq (.block (.seq .leaf (.seq .leaf (.cond (.seq .leaf .leaf) .leaf)))) .leaf)))))) (.seq .leaf .leaf)))
theorem l_k72 (x):funI noU (tabT tab) noPhi Psi_k72 Tryd.f72 b_k72 ann_k72 (.prod t63 t96) t3 x=S_slices_IndexFunc_files_block_byte  x:=by kernel_rfl
theorem spec_k72:FnSpec Tryd.prog 72 (.prod t63 t96) t3 (fcIndexFunc (.slice (.int .u8))).sh:=
 fn_ok mixOk tabOk noU_ok noPhi_ok Psi_k72_ok Tryd.func72 b_k72_ok (by kernel_rfl) fun x=>M.le_trans (M.le_of_eq (l_k72 x)) (sIndexFuncB x)
def b_k52:Code:=Tryd.f52.body.getD .skip
theorem b_k52_ok:Tryd.f52.body=some b_k52:=by kernel_rfl
def Psi_k52 (k:Nat):Option KC:=if k=72 then some (.sc ⟨(.prod t63 t96),t3,(fcIndexFunc (.slice (.int .u8))).sh,true⟩) else none
theorem Psi_k52_ok:PsiOk Tryd.prog noU Psi_k52:=by
 intro k c h
 unfold Psi_k52 at h
 split at h
 ·cases h;subst_vars;exact ⟨spec_k72,fun _ _=>M.det_det⟩
 cases h
def ann_k52:Ann:=(.seq .leaf (.seq .leaf .leaf))
theorem l_k52 (x):funI noU (tabT tab) noPhi Psi_k52 Tryd.f52 b_k52 ann_k52 (.prod t63 t96) t4 x=S_slices_ContainsFunc_files_block_byte (fcIndexFunc (.slice (.int .u8))).sh x:=by kernel_rfl
theorem spec_k52:FnSpec Tryd.prog 52 (.prod t63 t96) t4 (fcContainsFunc (.slice (.int .u8))).sh:=
 fn_ok mixOk tabOk noU_ok noPhi_ok Psi_k52_ok Tryd.func52 b_k52_ok (by kernel_rfl) fun x=>M.le_trans (M.le_of_eq (l_k52 x)) (sContainsFuncB x)
def b_k65:Code:=Tryd.f65.body.getD .skip
theorem b_k65_ok:Tryd.f65.body=some b_k65:=by kernel_rfl
def Psi_k65 (k:Nat):Option KC:=none
theorem Psi_k65_ok:PsiOk Tryd.prog noU Psi_k65:=by
 intro k c h
 unfold Psi_k65 at h
 cases h
def ann_k65:Ann:=(.seq .leaf (.seq .leaf (.join ⟨[(3,.own 3)],[(3,.arr t9)]⟩ (.seq .leaf (.block (.loop ⟨[(3,.own 3),(11,.val t63),(12,.val t3),(13,.val t3)],[(3,.arr t9)]⟩ (.seq .leaf (.seq (.cond .leaf .leaf) (.seq (.block (.seq .leaf (.seq .leaf .leaf))) .leaf)))))) (.seq .leaf .leaf))))
theorem l_k65 (x):funI noU (tabT tab) noPhi Psi_k65 Tryd.f65 b_k65 ann_k65 t63 t22 x=S_files_block_texts  x:=by kernel_rfl
theorem spec_k65:FnSpec Tryd.prog 65 t63 t22 fcTexts.sh:=
 fn_ok mixOk tabOk noU_ok noPhi_ok Psi_k65_ok Tryd.func65 b_k65_ok (by kernel_rfl) fun x=>M.le_trans (M.le_of_eq (l_k65 x)) (sTextsP x)
def b_k43:Code:=Tryd.f43.body.getD .skip
theorem b_k43_ok:Tryd.f43.body=some b_k43:=by kernel_rfl
def Psi_k43 (k:Nat):Option KC:=if k=12 then some (.sc ⟨t22,(.prod t9 t26),fcWriteP.sh,true⟩) else if k=42 then some (.sc ⟨t63,t9,fcText.sh,true⟩) else if k=46 then some (.io ioc_wstr) else if k=48 then some (.io ioc_bstr) else if k=65 then some (.sc ⟨t63,t22,fcTexts.sh,true⟩) else none
theorem Psi_k43_ok:PsiOk Tryd.prog noU Psi_k43:=by
 intro k c h
 unfold Psi_k43 at h
 split at h
 ·cases h;subst_vars;exact ⟨spec_k12,fun _ _=>M.det_det⟩
 split at h
 ·cases h;subst_vars;exact ⟨spec_k42,fun _ _=>M.det_det⟩
 split at h
 ·cases h;subst_vars;exact io_wstr
 split at h
 ·cases h;subst_vars;exact io_bstr
 split at h
 ·cases h;subst_vars;exact ⟨spec_k65,fun _ _=>M.det_det⟩
 cases h
def ann_k43:Ann:=(.seq .leaf (.seq .leaf (.join ⟨[(0,.val t59),(4,.own 4),(5,.loc 5 0)],[(4,.arr t9),(5,.cells t84 [.nos 5,.own 30000]),(30000,.arr t5)]⟩ .leaf (.join ⟨[(4,.own 4),(5,.loc 5 0)],[(4,.arr t9),(5,.cells t84 [.nos 5,.own 30000]),(30000,.arr t5)]⟩ (.seq .leaf (.block (.loop ⟨[(4,.own 4),(5,.loc 5 0),(10,.val t59),(11,.val t3),(12,.val t3)],[(4,.arr t9),(5,.cells t84 [.nos 5,.own 30000]),(30000,.arr t5)]⟩ (.seq .leaf (.seq (.cond .leaf .leaf) (.seq (.block (.seq .leaf (.seq .leaf .leaf))) .leaf)))))) (.seq .leaf (.seq .leaf .leaf))))))
theorem l_k43 (x):funI noU (tabT tab) noPhi Psi_k43 Tryd.f43 b_k43 ann_k43 t59 (.prod t22 t4) x=S_files_unpack fcWriteP.sh fcText.sh shWStr shBStr fcTexts.sh x:=by kernel_rfl
theorem spec_k43:FnSpec Tryd.prog 43 t59 (.prod t22 t4) fcUnpack.sh:=
 fn_ok mixOk tabOk noU_ok noPhi_ok Psi_k43_ok Tryd.func43 b_k43_ok (by kernel_rfl) fun x=>M.le_trans (M.le_of_eq (l_k43 x)) (sUnpack x)
def b_k54:Code:=Tryd.f54.body.getD .skip
theorem b_k54_ok:Tryd.f54.body=some b_k54:=by kernel_rfl
def Psi_k54 (k:Nat):Option KC:=none
theorem Psi_k54_ok:PsiOk Tryd.prog noU Psi_k54:=by
 intro k c h
 unfold Psi_k54 at h
 cases h
def ann_k54:Ann:=(.seq .leaf (.seq .leaf (.join ⟨[(7,.own 7)],[(7,.arr t5)]⟩ (.seq .leaf (.block (.loop ⟨[(1,.val t3),(7,.own 7),(15,.val t63),(16,.val t3),(17,.val t3)],[(7,.arr t5)]⟩ (.seq .leaf (.seq (.cond .leaf .leaf) (.seq (.block (.seq .leaf .leaf)) .leaf)))))) (.seq .leaf .leaf))))
theorem l_k54 (x):funI noU (tabT tab) noPhi Psi_k54 Tryd.f54 b_k54 ann_k54 (.prod t63 (.prod t3 t3)) t55 x=S_files_block_column  x:=by kernel_rfl
theorem spec_k54:FnSpec Tryd.prog 54 (.prod t63 (.prod t3 t3)) t55 fcColumn.sh:=
 fn_ok mixOk tabOk noU_ok noPhi_ok Psi_k54_ok Tryd.func54 b_k54_ok (by kernel_rfl) fun x=>M.le_trans (M.le_of_eq (l_k54 x)) (sColumn x)
def b_kcolf:Code:=Tryd.f54.body.getD .skip
theorem b_kcolf_ok:Tryd.f54.body=some b_kcolf:=by kernel_rfl
def Psi_kcolf (k:Nat):Option KC:=none
theorem Psi_kcolf_ok:PsiOk Tryd.prog noU Psi_kcolf:=by
 intro k c h
 unfold Psi_kcolf at h
 cases h
def ioc_colf:IOC:=⟨⟨[(0,.val t63),(1,.val t3),(2,.val t3)],[]⟩,⟨[(0,.own 7)],[(7,.arr t5)]⟩,[none],3,shColF⟩
def ann_kcolf:Ann:=(.seq .leaf (.seq .leaf (.join ⟨[(7,.own 7)],[(7,.arr t5)]⟩ (.seq .leaf (.block (.loop ⟨[(1,.val t3),(7,.own 7),(15,.val t63),(16,.val t3),(17,.val t3)],[(7,.arr t5)]⟩ (.seq .leaf (.seq (.cond .leaf .leaf) (.seq (.block (.seq .leaf .leaf)) .leaf)))))) (.seq .leaf .leaf))))
theorem l_kcolf (x):funIO noU (tabT tab) noPhi Psi_kcolf Tryd.f54 b_kcolf ann_kcolf ⟨[(0,.val t63),(1,.val t3),(2,.val t3)],[]⟩ ⟨[(0,.own 7)],[(7,.arr t5)]⟩ [none] x=S_io_colf  x:=by kernel_rfl
theorem io_colf:IoSpec Tryd.prog noU 54 ioc_colf:=
 fnIO_ok mixOk tabOk noPhi_ok Psi_kcolf_ok Tryd.func54 b_kcolf_ok (by kernel_rfl) fun x=>M.le_trans (M.le_of_eq (l_kcolf x)) (sColF x)
theorem colf_fresh:FreshSpec Tryd.prog 54 (.prod t63 (.prod t3 t3)) t55 fcColumn.sh:=(fresh_of_io (ts:=.prod t63 (.prod t3 t3)) (e:=t5) (by decide) rfl io_colf noU_ok (b0:=7) (fun x=>(x.1,x.2.1,x.2.2,())) (fun x=>rfl) rfl (by decide) rfl (fun τ=>τ.1) (fun τ=>⟨rfl,rfl⟩) (fun x h=>⟨h,fun τ ht=>congrArg (fun z=>z.1) ht⟩)).2
def U_raw:FnTab:={ fnv:=fun _=>none,clv:=fun k=>if k=51 then some ⟨[t55],[t3],t4,fcOdd.sh⟩ else none,pcs:=fun k=>if k=42 then some ⟨(.slice t55r),t5,t9,fcText.pre,fcText.g,false⟩ else if k=43 then some ⟨(.slice (.slice t55r)),t5,(.prod t22 t4),fcUnpack.pre,fcUnpack.g,false⟩ else if k=52 then some ⟨(.prod (.slice t55r) t96),t5,t4,(fcContainsFunc (.slice (.int .u8))).pre,(fcContainsFunc (.slice (.int .u8))).g,false⟩ else if k=53 then some ⟨t55r,t5,t5,fcCheckP.pre,fcCheckP.g,false⟩ else if k=54 then some ⟨(.prod (.slice t55r) (.prod t3 t3)),t5,t55,fcColumn.pre,fcColumn.g,true⟩ else none }
theorem U_raw_ok:FnTabOk Tryd.prog U_raw where
 fnv:=by
  intro k v h
  cases h
 clv:=by
  intro k v h
  simp only [U_raw] at h
  split at h
  ·cases h;subst_vars;exact ⟨rfl,spec_k51⟩
  cases h
 pcs:=by
  intro k v h
  simp only [U_raw] at h
  split at h
  ·cases h;subst_vars;exact ⟨spec_k42,fun h=>by cases h⟩
  split at h
  ·cases h;subst_vars;exact ⟨spec_k43,fun h=>by cases h⟩
  split at h
  ·cases h;subst_vars;exact ⟨spec_k52,fun h=>by cases h⟩
  split at h
  ·cases h;subst_vars;exact ⟨spec_k53,fun h=>by cases h⟩
  split at h
  ·cases h;subst_vars;exact ⟨spec_k54,fun _=>colf_fresh⟩
  cases h
def b_kcut:Code:=Tryd.f33.body.getD .skip
theorem b_kcut_ok:Tryd.f33.body=some b_kcut:=by kernel_rfl
def Psi_kcut (k:Nat):Option KC:=if k=49 then some (.sc ⟨(.prod t9 t9),(.prod t9 (.prod t9 t4)),fcCutP.sh,true⟩) else if k=50 then some (.sc ⟨(.prod t9 t9),t22,fcSplitP.sh,true⟩) else none
theorem Psi_kcut_ok:PsiOk Tryd.prog U_raw Psi_kcut:=by
 intro k c h
 unfold Psi_kcut at h
 split at h
 ·cases h;subst_vars;exact ⟨spec_k49,fun _ _=>M.det_det⟩
 split at h
 ·cases h;subst_vars;exact ⟨spec_k50,fun _ _=>M.det_det⟩
 cases h
def ioc_cut:IOC:=⟨⟨[(0,.val t9)],[(150000,.pool t5)]⟩,⟨[(0,.own 50140),(1,.val t4)],[(50140,.arr t63r),(150000,.pool t5)]⟩,[none,none],1,shCut⟩
def ann_kcut:Ann:=(.seq .leaf (.seq .leaf (.join ⟨[(4,.own 4)],[(4,.arr t63r),(150000,.pool t5)]⟩ (.block (.loop ⟨[(0,.val t9),(4,.own 4)],[(4,.arr t63r),(150000,.pool t5)]⟩ (.seq (.seq .leaf (.cond .leaf .leaf)) (.block (.seq .leaf (.seq (.seq .leaf (.cond (.seq .leaf .leaf) .leaf)) (.seq .leaf (.join ⟨[(4,.own 4),(6,.val t9),(8,.own 8)],[(4,.arr t63r),(8,.arr t55r),(150000,.pool t5)]⟩ (.seq .leaf (.block (.loop ⟨[(4,.own 4),(6,.val t9),(8,.own 8),(24,.val t22),(25,.val t3),(26,.val t3)],[(4,.arr t63r),(8,.arr t55r),(150000,.pool t5)]⟩ (.seq .leaf (.seq (.cond .leaf .leaf) (.seq (.block (.seq .leaf .leaf)) .leaf)))))) (.seq .leaf (.seq .leaf (.seq (.seq .leaf (.cond (.seq .leaf .leaf) .leaf)) .leaf))))))))))) (.seq .leaf .leaf))))
theorem l_kcut (x):funIO U_raw (tabT tabR) noPhi Psi_kcut Tryd.f33 b_kcut ann_kcut ⟨[(0,.val t9)],[(150000,.pool t5)]⟩ ⟨[(0,.own 50140),(1,.val t4)],[(50140,.arr t63r),(150000,.pool t5)]⟩ [none,none] x=S_io_cut fcCutP.sh fcSplitP.sh (fcContainsFunc (.slice (.int .u8))).pre (fcContainsFunc (.slice (.int .u8))).g fcOdd.sh x:=by kernel_rfl
theorem io_cut:IoSpec Tryd.prog U_raw 33 ioc_cut:=
 fnIO_ok mixOk tabROk noPhi_ok Psi_kcut_ok Tryd.func33 b_kcut_ok (by kernel_rfl) fun x=>M.le_trans (M.le_of_eq (l_kcut x)) (sCut x)
def b_kl57:Code:=Tryd.f57.body.getD .skip
theorem b_kl57_ok:Tryd.f57.body=some b_kl57:=by kernel_rfl
def Psi_kl57 (k:Nat):Option KC:=none
theorem Psi_kl57_ok:PsiOk Tryd.prog U_raw Psi_kl57:=by
 intro k c h
 unfold Psi_kl57 at h
 cases h
def ioc_l57:IOC:=⟨⟨[(0,.val t5),(1,.loc 100011 0),(2,.loc 100010 0)],[(100010,.whole t66),(100011,.cells t55r [.val t55r]),(150000,.pool t5)]⟩,⟨[(0,.val t4)],[(100010,.whole t66),(100011,.cells t55r [.val t55r]),(150000,.pool t5)]⟩,[none],3,shL57⟩
def ann_kl57:Ann:=(.seq .leaf (.seq .leaf (.seq .leaf (.seq .leaf .leaf))))
theorem l_kl57 (x):funIO U_raw (tabT tabR) noPhi Psi_kl57 Tryd.f57 b_kl57 ann_kl57 ⟨[(0,.val t5),(1,.loc 100011 0),(2,.loc 100010 0)],[(100010,.whole t66),(100011,.cells t55r [.val t55r]),(150000,.pool t5)]⟩ ⟨[(0,.val t4)],[(100010,.whole t66),(100011,.cells t55r [.val t55r]),(150000,.pool t5)]⟩ [none] x=S_io_l57 fcCheckP.pre fcCheckP.g x:=by kernel_rfl
theorem io_l57:IoSpec Tryd.prog U_raw 57 ioc_l57:=
 fnIO_ok mixOk tabROk noPhi_ok Psi_kl57_ok Tryd.func57 b_kl57_ok (by kernel_rfl) fun x=>M.le_trans (M.le_of_eq (l_kl57 x)) (sL57 x)
def b_kidxf:Code:=Tryd.f75.body.getD .skip
theorem b_kidxf_ok:Tryd.f75.body=some b_kidxf:=by kernel_rfl
def Psi_kidxf (k:Nat):Option KC:=if k=57 then some (.io ioc_l57) else none
theorem Psi_kidxf_ok:PsiOk Tryd.prog U_raw Psi_kidxf:=by
 intro k c h
 unfold Psi_kidxf at h
 split at h
 ·cases h;subst_vars;exact io_l57
 cases h
def ioc_idxf:IOC:=⟨⟨[(0,.val t55),(1,.clo 57 [(100011,0),(100010,0)])],[(100010,.whole t66),(100011,.cells t55r [.val t55r]),(150000,.pool t5)]⟩,⟨[(0,.val t3)],[(100010,.whole t66),(100011,.cells t55r [.val t55r]),(150000,.pool t5)]⟩,[none],2,shIdxf⟩
def ann_kidxf:Ann:=(.seq .leaf (.join ⟨[],[(100010,.whole t41),(100011,.cells t55r [.val t55r]),(150000,.pool t5)]⟩ (.seq .leaf (.block (.loop ⟨[(0,.val t55),(1,.clo 57 [(100011,0),(100010,0)]),(7,.val t3),(8,.val t3)],[(100010,.whole t41),(100011,.cells t55r [.val t55r]),(150000,.pool t5)]⟩ (.seq .leaf (.seq (.cond .leaf .leaf) (.seq (.block (.seq .leaf (.seq .leaf (.cond (.seq .leaf .leaf) .leaf)))) .leaf)))))) (.seq .leaf .leaf)))
theorem l_kidxf (x):funIO U_raw (tabT tab) noPhi Psi_kidxf Tryd.f75 b_kidxf ann_kidxf ⟨[(0,.val t55),(1,.clo 57 [(100011,0),(100010,0)])],[(100010,.whole t66),(100011,.cells t55r [.val t55r]),(150000,.pool t5)]⟩ ⟨[(0,.val t3)],[(100010,.whole t66),(100011,.cells t55r [.val t55r]),(150000,.pool t5)]⟩ [none] x=S_io_idxf shL57 x:=by kernel_rfl
theorem io_idxf:IoSpec Tryd.prog U_raw 75 ioc_idxf:=
 fnIO_ok mixOk tabOk noPhi_ok Psi_kidxf_ok Tryd.func75 b_kidxf_ok (by kernel_rfl) fun x=>M.le_trans (M.le_of_eq (l_kidxf x)) (sIdxf x)
def b_kcf:Code:=Tryd.f55.body.getD .skip
theorem b_kcf_ok:Tryd.f55.body=some b_kcf:=by kernel_rfl
def Psi_kcf (k:Nat):Option KC:=if k=75 then some (.io ioc_idxf) else none
theorem Psi_kcf_ok:PsiOk Tryd.prog U_raw Psi_kcf:=by
 intro k c h
 unfold Psi_kcf at h
 split at h
 ·cases h;subst_vars;exact io_idxf
 cases h
def ioc_cf:IOC:=⟨⟨[(0,.val t55),(1,.clo 57 [(100011,0),(100010,0)])],[(100010,.whole t66),(100011,.cells t55r [.val t55r]),(150000,.pool t5)]⟩,⟨[(0,.val t4)],[(100010,.whole t66),(100011,.cells t55r [.val t55r]),(150000,.pool t5)]⟩,[none],2,shCf⟩
def ann_kcf:Ann:=(.seq .leaf (.seq .leaf .leaf))
theorem l_kcf (x):funIO U_raw (tabT tab) noPhi Psi_kcf Tryd.f55 b_kcf ann_kcf ⟨[(0,.val t55),(1,.clo 57 [(100011,0),(100010,0)])],[(100010,.whole t66),(100011,.cells t55r [.val t55r]),(150000,.pool t5)]⟩ ⟨[(0,.val t4)],[(100010,.whole t66),(100011,.cells t55r [.val t55r]),(150000,.pool t5)]⟩ [none] x=S_io_cf shIdxf x:=by kernel_rfl
theorem io_cf:IoSpec Tryd.prog U_raw 55 ioc_cf:=
 fnIO_ok mixOk tabOk noPhi_ok Psi_kcf_ok Tryd.func55 b_kcf_ok (by kernel_rfl) fun x=>M.le_trans (M.le_of_eq (l_kcf x)) (sCf x)
def b_k56:Code:=Tryd.f56.body.getD .skip
theorem b_k56_ok:Tryd.f56.body=some b_k56:=by kernel_rfl
def Psi_k56 (k:Nat):Option KC:=none
theorem Psi_k56_ok:PsiOk Tryd.prog noU Psi_k56:=by
 intro k c h
 unfold Psi_k56 at h
 cases h
def ann_k56:Ann:=(.seq .leaf (.seq .leaf (.join ⟨[(1,.own 1)],[(1,.arr t5)]⟩ (.seq .leaf (.block (.loop ⟨[(1,.own 1),(2,.val t5)],[(1,.arr t5)]⟩ (.seq (.seq .leaf (.cond .leaf .leaf)) (.seq (.block .leaf) .leaf))))) (.seq .leaf .leaf))))
theorem l_k56 (x):funI noU (tabT tab) noPhi Psi_k56 Tryd.f56 b_k56 ann_k56 .unit t55 x=S_files_printable  x:=by kernel_rfl
theorem spec_k56:FnSpec Tryd.prog 56 .unit t55 fcPrintable.sh:=
 fn_ok mixOk tabOk noU_ok noPhi_ok Psi_k56_ok Tryd.func56 b_k56_ok (by kernel_rfl) fun x=>M.le_trans (M.le_of_eq (l_k56 x)) (sPrintable x)
def b_klook:Code:=Tryd.f34.body.getD .skip
theorem b_klook_ok:Tryd.f34.body=some b_klook:=by kernel_rfl
def Psi_klook (k:Nat):Option KC:=if k=55 then some (.io ioc_cf) else if k=56 then some (.sc ⟨.unit,t55,fcPrintable.sh,true⟩) else none
theorem Psi_klook_ok:PsiOk Tryd.prog U_raw Psi_klook:=by
 intro k c h
 unfold Psi_klook at h
 split at h
 ·cases h;subst_vars;exact io_cf
 split at h
 ·cases h;subst_vars;exact ⟨spec_k56,fun _ _=>M.det_det⟩
 cases h
def ioc_look:IOC:=⟨⟨[(0,.val t63r)],[(150000,.pool t5)]⟩,⟨[(0,.val t64),(1,.val t66)],[(150000,.pool t5)]⟩,[none,none],1,shLook⟩
def ann_klook:Ann:=(.seq .leaf (.seq .leaf (.join ⟨[(0,.val t63r),(3,.loc 3 0),(4,.own 4),(5,.own 5)],[(3,.whole t41),(4,.arr t3),(5,.arr t3),(150000,.pool t5)]⟩ (.seq .leaf (.block (.loop ⟨[(0,.val t63r),(3,.loc 3 0),(4,.own 4),(5,.own 5),(13,.val t63r),(14,.val t3),(15,.val t3)],[(3,.whole t41),(4,.arr t3),(5,.arr t3),(150000,.pool t5)]⟩ (.seq .leaf (.seq (.cond .leaf .leaf) (.join ⟨[(0,.val t63r),(3,.loc 3 0),(4,.own 4),(5,.own 5),(13,.val t63r),(14,.val t3),(15,.val t3)],[(3,.whole t41),(4,.arr t3),(5,.arr t3),(150000,.pool t5)]⟩ (.block (.seq .leaf (.seq .leaf (.seq .leaf (.cond .leaf .leaf))))) .leaf)))))) (.join ⟨[(0,.val t63r),(3,.loc 3 0),(4,.own 4),(5,.own 5)],[(3,.whole t41),(4,.arr t3),(5,.arr t3),(150000,.pool t5)]⟩ (.seq .leaf (.block (.loop ⟨[(0,.val t63r),(3,.loc 3 0),(4,.own 4),(5,.own 5),(40,.val t3),(41,.val t3)],[(3,.whole t41),(4,.arr t3),(5,.arr t3),(150000,.pool t5)]⟩ (.seq .leaf (.seq (.cond .leaf .leaf) (.join ⟨[(0,.val t63r),(3,.loc 3 0),(4,.own 4),(5,.own 5),(40,.val t3),(41,.val t3)],[(3,.whole t41),(4,.arr t3),(5,.arr t3),(150000,.pool t5)]⟩ (.block (.seq .leaf (.seq .leaf (.cond .leaf .leaf)))) .leaf)))))) (.seq (.seq .leaf (.cond (.seq .leaf .leaf) .leaf)) (.seq (.seq .leaf (.cond (.seq .leaf .leaf) .leaf)) (.seq .leaf (.seq .leaf (.seq .leaf (.seq (.seq .leaf (.cond (.seq .leaf (.seq .leaf .leaf)) .leaf)) (.seq .leaf .leaf)))))))))))
theorem l_klook (x):funIO U_raw (tabT tabR) noPhi Psi_klook Tryd.f34 b_klook ann_klook ⟨[(0,.val t63r)],[(150000,.pool t5)]⟩ ⟨[(0,.val t64),(1,.val t66)],[(150000,.pool t5)]⟩ [none,none] x=S_io_look fcCheckP.pre fcCheckP.g fcColumn.pre fcColumn.g shCf fcPrintable.sh x:=by kernel_rfl
theorem io_look:IoSpec Tryd.prog U_raw 34 ioc_look:=
 fnIO_ok mixOk tabROk noPhi_ok Psi_klook_ok Tryd.func34 b_klook_ok (by kernel_rfl) fun x=>M.le_trans (M.le_of_eq (l_klook x)) (sLook x)
def b_k32:Code:=Tryd.f32.body.getD .skip
theorem b_k32_ok:Tryd.f32.body=some b_k32:=by kernel_rfl
def Psi_k32 (k:Nat):Option KC:=if k=33 then some (.io ioc_cut) else if k=34 then some (.io ioc_look) else none
theorem Psi_k32_ok:PsiOk Tryd.prog U_raw Psi_k32:=by
 intro k c h
 unfold Psi_k32 at h
 split at h
 ·cases h;subst_vars;exact io_cut
 split at h
 ·cases h;subst_vars;exact io_look
 cases h
def ann_k32:Ann:=(.seq .leaf (.seq .leaf (.seq (.seq .leaf (.cond (.seq .leaf .leaf) .leaf)) (.seq .leaf (.join ⟨[(3,.own 3),(5,.own 50150)],[(3,.arr t3),(50150,.arr t63r),(150000,.pool t5)]⟩ (.seq .leaf (.block (.loop ⟨[(3,.own 3),(5,.own 50150),(7,.val t3),(20,.own 50150),(21,.val t3),(22,.val t3)],[(3,.arr t3),(50150,.arr t63r),(150000,.pool t5)]⟩ (.seq .leaf (.seq (.cond .leaf .leaf) (.seq (.block (.seq .leaf (.seq .leaf (.join ⟨[(3,.own 3),(5,.own 50150),(7,.val t3),(9,.val t63r),(10,.val t3),(20,.own 50150),(21,.val t3),(22,.val t3)],[(3,.arr t3),(50150,.arr t63r),(150000,.pool t5)]⟩ (.seq .leaf (.seq .leaf (.block (.seq .leaf (.cond (.seq .leaf .leaf) (.seq .leaf (.cond .leaf .leaf))))))) (.seq .leaf .leaf))))) .leaf)))))) (.seq .leaf (.seq (.seq .leaf (.cond (.seq .leaf .leaf) .leaf)) (.seq .leaf .leaf))))))))
theorem l_k32 (x):funI U_raw (tabT tabR) noPhi Psi_k32 Tryd.f32 b_k32 ann_k32 t9 (.prod t22 (.prod t56 t26)) x=S_files_read shCut shLook fcText.pre fcText.g fcUnpack.pre fcUnpack.g x:=by kernel_rfl
theorem spec_k32:FnSpec Tryd.prog 32 t9 (.prod t22 (.prod t56 t26)) fcRead.sh:=
 fn_ok mixOk tabROk U_raw_ok noPhi_ok Psi_k32_ok Tryd.func32 b_k32_ok (by kernel_rfl) fun x=>M.le_trans (M.le_of_eq (l_k32 x)) (sRead x)
def b_k15:Code:=Tryd.f15.body.getD .skip
theorem b_k15_ok:Tryd.f15.body=some b_k15:=by kernel_rfl
def Psi_k15 (k:Nat):Option KC:=if k=32 then some (.sc ⟨t9,(.prod t22 (.prod t56 t26)),fcRead.sh,true⟩) else none
theorem Psi_k15_ok:PsiOk Tryd.prog noU Psi_k15:=by
 intro k c h
 unfold Psi_k15 at h
 split at h
 ·cases h;subst_vars;exact ⟨spec_k32,fun _ _=>M.det_det⟩
 cases h
def ann_k15:Ann:=(.seq .leaf (.seq .leaf (.join ⟨[(2,.val t22),(3,.own 3),(4,.val t3)],[(3,.arr t3)]⟩ (.seq .leaf (.block (.loop ⟨[(2,.val t22),(3,.own 3),(4,.val t3),(14,.val t29),(15,.val t3),(16,.val t3)],[(3,.arr t3)]⟩ (.seq .leaf (.seq (.cond .leaf .leaf) (.join ⟨[(2,.val t22),(3,.own 3),(4,.val t3),(14,.val t29),(15,.val t3),(16,.val t3)],[(3,.arr t3)]⟩ (.block (.seq .leaf (.seq .leaf (.cond .leaf .leaf)))) .leaf)))))) (.seq .leaf .leaf))))
theorem l_k15 (x):funI noU (tabT tab) noPhi Psi_k15 Tryd.f15 b_k15 ann_k15 t9 (.prod t22 (.prod t29 t26)) x=S_files_Read fcRead.sh x:=by kernel_rfl
theorem spec_k15:FnSpec Tryd.prog 15 t9 (.prod t22 (.prod t29 t26)) fcReadF.sh:=
 fn_ok mixOk tabOk noU_ok noPhi_ok Psi_k15_ok Tryd.func15 b_k15_ok (by kernel_rfl) fun x=>M.le_trans (M.le_of_eq (l_k15 x)) (sReadF x)
def b_k16:Code:=Tryd.f16.body.getD .skip
theorem b_k16_ok:Tryd.f16.body=some b_k16:=by kernel_rfl
def Psi_k16 (k:Nat):Option KC:=if k=32 then some (.sc ⟨t9,(.prod t22 (.prod t56 t26)),fcRead.sh,true⟩) else none
theorem Psi_k16_ok:PsiOk Tryd.prog noU Psi_k16:=by
 intro k c h
 unfold Psi_k16 at h
 split at h
 ·cases h;subst_vars;exact ⟨spec_k32,fun _ _=>M.det_det⟩
 cases h
def ann_k16:Ann:=(.seq .leaf (.seq .leaf (.seq .leaf .leaf)))
theorem l_k16 (x):funI noU (tabT tab) noPhi Psi_k16 Tryd.f16 b_k16 ann_k16 t9 (.prod t29 t26) x=S_files_Damage fcRead.sh x:=by kernel_rfl
theorem spec_k16:FnSpec Tryd.prog 16 t9 (.prod t29 t26) fcDamage.sh:=
 fn_ok mixOk tabOk noU_ok noPhi_ok Psi_k16_ok Tryd.func16 b_k16_ok (by kernel_rfl) fun x=>M.le_trans (M.le_of_eq (l_k16 x)) (sDamage x)
def b_k17:Code:=Tryd.f17.body.getD .skip
theorem b_k17_ok:Tryd.f17.body=some b_k17:=by kernel_rfl
def Psi_k17 (k:Nat):Option KC:=if k=33 then some (.io ioc_cut) else if k=34 then some (.io ioc_look) else none
theorem Psi_k17_ok:PsiOk Tryd.prog U_raw Psi_k17:=by
 intro k c h
 unfold Psi_k17 at h
 split at h
 ·cases h;subst_vars;exact io_cut
 split at h
 ·cases h;subst_vars;exact io_look
 cases h
def ann_k17:Ann:=(.seq .leaf (.seq .leaf (.seq (.seq .leaf (.cond (.seq .leaf .leaf) .leaf)) (.join ⟨[(3,.val t3),(5,.own 50130)],[(50130,.arr t63r),(150000,.pool t5)]⟩ (.seq .leaf (.block (.loop ⟨[(3,.val t3),(5,.own 50130),(18,.own 50130),(19,.val t3),(20,.val t3)],[(50130,.arr t63r),(150000,.pool t5)]⟩ (.seq .leaf (.seq (.cond .leaf .leaf) (.join ⟨[(3,.val t3),(5,.own 50130),(18,.own 50130),(19,.val t3),(20,.val t3)],[(50130,.arr t63r),(150000,.pool t5)]⟩ (.block (.seq .leaf (.seq .leaf (.seq .leaf (.cond .leaf .leaf))))) .leaf)))))) (.seq .leaf .leaf)))))
theorem l_k17 (x):funI U_raw (tabT tabR) noPhi Psi_k17 Tryd.f17 b_k17 ann_k17 t9 (.prod t3 (.prod t3 t26)) x=S_files_Check shCut shLook x:=by kernel_rfl
theorem spec_k17:FnSpec Tryd.prog 17 t9 (.prod t3 (.prod t3 t26)) fcCheckF.sh:=
 fn_ok mixOk tabROk U_raw_ok noPhi_ok Psi_k17_ok Tryd.func17 b_k17_ok (by kernel_rfl) fun x=>M.le_trans (M.le_of_eq (l_k17 x)) (sCheckF x)
def b_k25:Code:=Tryd.f25.body.getD .skip
theorem b_k25_ok:Tryd.f25.body=some b_k25:=by kernel_rfl
def Psi_k25 (k:Nat):Option KC:=if k=33 then some (.io ioc_cut) else if k=34 then some (.io ioc_look) else none
theorem Psi_k25_ok:PsiOk Tryd.prog U_raw Psi_k25:=by
 intro k c h
 unfold Psi_k25 at h
 split at h
 ·cases h;subst_vars;exact io_cut
 split at h
 ·cases h;subst_vars;exact io_look
 cases h
def ann_k25:Ann:=(.seq .leaf (.seq .leaf (.seq .leaf (.seq (.seq .leaf (.cond (.seq .leaf .leaf) .leaf)) (.join ⟨[(6,.own 50190)],[(50190,.arr t63r),(150000,.pool t5)]⟩ (.seq .leaf (.block (.loop ⟨[(6,.own 50190),(8,.own 50240),(40,.own 50190),(41,.val t3),(42,.val t3)],[(50190,.arr t63r),(50240,.arr t63r),(150000,.pool t5)]⟩ (.seq .leaf (.seq (.cond .leaf .leaf) (.join ⟨[(6,.own 50190),(8,.own 50240),(40,.own 50190),(41,.val t3),(42,.val t3)],[(50190,.arr t63r),(50240,.arr t63r),(150000,.pool t5)]⟩ (.block (.seq .leaf (.seq .leaf (.seq .leaf (.block (.seq .leaf (.cond (.seq .leaf .leaf) (.seq .leaf (.cond .leaf (.seq .leaf (.cond (.seq .leaf .leaf) .leaf))))))))))) .leaf)))))) (.seq .leaf (.seq (.seq .leaf (.cond (.seq .leaf .leaf) .leaf)) (.seq .leaf .leaf))))))))
theorem l_k25 (x):funI U_raw (tabT tabR) noPhi Psi_k25 Tryd.f25 b_k25 ann_k25 (.prod t9 t9) (.prod t22 t26) x=S_files_Join shCut shLook fcText.pre fcText.g fcUnpack.pre fcUnpack.g x:=by kernel_rfl
theorem spec_k25:FnSpec Tryd.prog 25 (.prod t9 t9) (.prod t22 t26) fcJoin.sh:=
 fn_ok mixOk tabROk U_raw_ok noPhi_ok Psi_k25_ok Tryd.func25 b_k25_ok (by kernel_rfl) fun x=>M.le_trans (M.le_of_eq (l_k25 x)) (sJoin x)
end Go.Fer.Sk
namespace Go.Fer.Sk
open Go.Proofs
open M (Step)
set_option maxRecDepth 100000
set_option linter.unusedVariables false
set_option linter.unusedSimpArgs false
def b_k19:Code:=Tryd.f19.body.getD .skip
theorem b_k19_ok:Tryd.f19.body=some b_k19:=by kernel_rfl
def Psi_k19 (k:Nat):Option KC:=none
theorem Psi_k19_ok:PsiOk Tryd.prog noU Psi_k19:=by
 intro k c h
 unfold Psi_k19 at h
 cases h
def ann_k19:Ann:=(.seq .leaf (.seq .leaf (.join ⟨[(0,.val t22),(3,.val t3)],[]⟩ (.seq .leaf (.block (.loop ⟨[(0,.val t22),(3,.val t3),(4,.val t3)],[]⟩ (.seq (.seq .leaf (.cond .leaf .leaf)) (.seq (.block .leaf) .leaf))))) (.seq .leaf .leaf))))
theorem l_k19 (x):funI noU (tabT tab) noPhi Psi_k19 Tryd.f19 b_k19 ann_k19 t22 t4 x=S_law14_Far  x:=by kernel_rfl
theorem spec_k19:FnSpec Tryd.prog 19 t22 t4 fcFar.sh:=
 fn_ok mixOk tabOk noU_ok noPhi_ok Psi_k19_ok Tryd.func19 b_k19_ok (by kernel_rfl) fun x=>M.le_trans (M.le_of_eq (l_k19 x)) (sFar x)
def b_k10:Code:=Tryd.f10.body.getD .skip
theorem b_k10_ok:Tryd.f10.body=some b_k10:=by kernel_rfl
def Psi_k10 (k:Nat):Option KC:=if k=19 then some (.sc ⟨t22,t4,fcFar.sh,true⟩) else none
theorem Psi_k10_ok:PsiOk Tryd.prog noU Psi_k10:=by
 intro k c h
 unfold Psi_k10 at h
 split at h
 ·cases h;subst_vars;exact ⟨spec_k19,fun _ _=>M.det_det⟩
 cases h
def ann_k10:Ann:=(.seq .leaf (.join ⟨[(0,.val t22)],[]⟩ (.seq .leaf (.block (.loop ⟨[(0,.val t22),(3,.val t3)],[]⟩ (.seq (.seq .leaf (.cond .leaf .leaf)) (.join ⟨[(0,.val t22),(3,.val t3)],[]⟩ (.block (.seq (.seq .leaf (.cond (.seq .leaf .leaf) .leaf)) (.seq .leaf (.block (.loop ⟨[(0,.val t22),(3,.val t3),(4,.val t3)],[]⟩ (.seq (.seq .leaf (.cond .leaf .leaf)) (.seq (.block (.seq .leaf (.cond (.seq .leaf .leaf) .leaf))) .leaf))))))) .leaf))))) (.seq .leaf .leaf)))
theorem l_k10 (x):funI noU (tabT tab) noPhi Psi_k10 Tryd.f10 b_k10 ann_k10 t22 t4 x=S_law14_isTexts fcFar.sh x:=by kernel_rfl
theorem spec_k10:FnSpec Tryd.prog 10 t22 t4 fcIsTexts.sh:=
 fn_ok mixOk tabOk noU_ok noPhi_ok Psi_k10_ok Tryd.func10 b_k10_ok (by kernel_rfl) fun x=>M.le_trans (M.le_of_eq (l_k10 x)) (sIsTexts x)
def b_k18:Code:=Tryd.f18.body.getD .skip
theorem b_k18_ok:Tryd.f18.body=some b_k18:=by kernel_rfl
def Psi_k18 (k:Nat):Option KC:=none
theorem Psi_k18_ok:PsiOk Tryd.prog noU Psi_k18:=by
 intro k c h
 unfold Psi_k18 at h
 cases h
def ann_k18:Ann:=(.seq .leaf (.seq (.seq .leaf (.cond (.seq .leaf .leaf) .leaf)) (.join ⟨[],[]⟩ (.seq .leaf (.block (.loop ⟨[(0,.val t22),(1,.val t22),(5,.val t3)],[]⟩ (.seq (.seq .leaf (.cond .leaf .leaf)) (.seq (.block (.seq .leaf (.cond (.seq .leaf .leaf) .leaf))) .leaf))))) (.seq .leaf .leaf))))
theorem l_k18 (x):funI noU (tabT tab) noPhi Psi_k18 Tryd.f18 b_k18 ann_k18 (.prod t22 t22) t4 x=S_law14_sameTexts  x:=by kernel_rfl
theorem spec_k18:FnSpec Tryd.prog 18 (.prod t22 t22) t4 fcSameT.sh:=
 fn_ok mixOk tabOk noU_ok noPhi_ok Psi_k18_ok Tryd.func18 b_k18_ok (by kernel_rfl) fun x=>M.le_trans (M.le_of_eq (l_k18 x)) (sSameT14 x)
def b_k24:Code:=Tryd.f24.body.getD .skip
theorem b_k24_ok:Tryd.f24.body=some b_k24:=by kernel_rfl
def Psi_k24 (k:Nat):Option KC:=none
theorem Psi_k24_ok:PsiOk Tryd.prog noU Psi_k24:=by
 intro k c h
 unfold Psi_k24 at h
 cases h
def ann_k24:Ann:=(.seq .leaf (.seq (.seq .leaf (.cond (.seq .leaf .leaf) .leaf)) (.join ⟨[],[]⟩ (.seq .leaf (.block (.loop ⟨[(0,.val t29),(1,.val t29),(5,.val t3)],[]⟩ (.seq (.seq .leaf (.cond .leaf .leaf)) (.seq (.block (.seq .leaf (.cond (.seq .leaf .leaf) .leaf))) .leaf))))) (.seq .leaf .leaf))))
theorem l_k24 (x):funI noU (tabT tab) noPhi Psi_k24 Tryd.f24 b_k24 ann_k24 (.prod t29 t29) t4 x=S_law14_sameInts  x:=by kernel_rfl
theorem spec_k24:FnSpec Tryd.prog 24 (.prod t29 t29) t4 fcSameI.sh:=
 fn_ok mixOk tabOk noU_ok noPhi_ok Psi_k24_ok Tryd.func24 b_k24_ok (by kernel_rfl) fun x=>M.le_trans (M.le_of_eq (l_k24 x)) (sSameI14 x)
def b_k11:Code:=Tryd.f11.body.getD .skip
theorem b_k11_ok:Tryd.f11.body=some b_k11:=by kernel_rfl
def Psi_k11 (k:Nat):Option KC:=if k=12 then some (.sc ⟨t22,(.prod t9 t26),fcWriteP.sh,true⟩) else if k=15 then some (.sc ⟨t9,(.prod t22 (.prod t29 t26)),fcReadF.sh,true⟩) else if k=16 then some (.sc ⟨t9,(.prod t29 t26),fcDamage.sh,true⟩) else if k=17 then some (.sc ⟨t9,(.prod t3 (.prod t3 t26)),fcCheckF.sh,true⟩) else if k=18 then some (.sc ⟨(.prod t22 t22),t4,fcSameT.sh,true⟩) else if k=24 then some (.sc ⟨(.prod t29 t29),t4,fcSameI.sh,true⟩) else none
theorem Psi_k11_ok:PsiOk Tryd.prog noU Psi_k11:=by
 intro k c h
 unfold Psi_k11 at h
 split at h
 ·cases h;subst_vars;exact ⟨spec_k12,fun _ _=>M.det_det⟩
 split at h
 ·cases h;subst_vars;exact ⟨spec_k15,fun _ _=>M.det_det⟩
 split at h
 ·cases h;subst_vars;exact ⟨spec_k16,fun _ _=>M.det_det⟩
 split at h
 ·cases h;subst_vars;exact ⟨spec_k17,fun _ _=>M.det_det⟩
 split at h
 ·cases h;subst_vars;exact ⟨spec_k18,fun _ _=>M.det_det⟩
 split at h
 ·cases h;subst_vars;exact ⟨spec_k24,fun _ _=>M.det_det⟩
 cases h
def ann_k11:Ann:=(.seq .leaf (.seq .leaf (.seq .leaf (.seq .leaf (.seq .leaf (.seq .leaf .leaf))))))
theorem l_k11 (x):funI noU (tabT tab) noPhi Psi_k11 Tryd.f11 b_k11 ann_k11 .unit t4 x=S_law14_works fcWriteP.sh fcReadF.sh fcDamage.sh fcCheckF.sh fcSameT.sh fcSameI.sh x:=by kernel_rfl
theorem spec_k11:FnSpec Tryd.prog 11 .unit t4 fcWorks.sh:=
 fn_ok mixOk tabOk noU_ok noPhi_ok Psi_k11_ok Tryd.func11 b_k11_ok (by kernel_rfl) fun x=>M.le_trans (M.le_of_eq (l_k11 x)) (sWorks x)
def b_k31:Code:=Tryd.f31.body.getD .skip
theorem b_k31_ok:Tryd.f31.body=some b_k31:=by kernel_rfl
def Psi_k31 (k:Nat):Option KC:=none
theorem Psi_k31_ok:PsiOk Tryd.prog noU Psi_k31:=by
 intro k c h
 unfold Psi_k31 at h
 cases h
def ann_k31:Ann:=(.seq .leaf (.seq (.seq .leaf (.cond (.seq .leaf .leaf) .leaf)) (.seq .leaf (.join ⟨[(6,.val t3)],[]⟩ (.seq .leaf (.block (.loop ⟨[(0,.val t9),(1,.val t3),(6,.val t3),(7,.val t3)],[]⟩ (.seq (.seq .leaf (.cond .leaf .leaf)) (.join ⟨[(0,.val t9),(1,.val t3),(6,.val t3),(7,.val t3)],[]⟩ (.block (.seq .leaf (.cond .leaf .leaf))) .leaf))))) (.seq .leaf .leaf)))))
theorem l_k31 (x):funI noU (tabT tab) noPhi Psi_k31 Tryd.f31 b_k31 ann_k31 (.prod t9 t3) (.prod t3 t4) x=S_law14_number  x:=by kernel_rfl
theorem spec_k31:FnSpec Tryd.prog 31 (.prod t9 t3) (.prod t3 t4) fcNumber.sh:=
 fn_ok mixOk tabOk noU_ok noPhi_ok Psi_k31_ok Tryd.func31 b_k31_ok (by kernel_rfl) fun x=>M.le_trans (M.le_of_eq (l_k31 x)) (sNumber x)
def b_k13:Code:=Tryd.f13.body.getD .skip
theorem b_k13_ok:Tryd.f13.body=some b_k13:=by kernel_rfl
def Psi_k13 (k:Nat):Option KC:=if k=31 then some (.sc ⟨(.prod t9 t3),(.prod t3 t4),fcNumber.sh,true⟩) else none
theorem Psi_k13_ok:PsiOk Tryd.prog noU Psi_k13:=by
 intro k c h
 unfold Psi_k13 at h
 split at h
 ·cases h;subst_vars;exact ⟨spec_k31,fun _ _=>M.det_det⟩
 cases h
def ann_k13:Ann:=(.seq .leaf (.seq .leaf (.join ⟨[(4,.val t9),(5,.own 5)],[(5,.arr t3)]⟩ (.seq .leaf (.block (.loop ⟨[(0,.val t9),(1,.val t23),(4,.val t9),(5,.own 5),(7,.val t3)],[(5,.arr t3)]⟩ (.seq (.seq .leaf (.cond .leaf .leaf)) (.join ⟨[(0,.val t9),(1,.val t23),(4,.val t9),(5,.own 5),(7,.val t3)],[(5,.arr t3)]⟩ (.block (.seq .leaf (.seq (.seq .leaf (.cond (.seq .leaf .leaf) .leaf)) (.join ⟨[(0,.val t9),(1,.val t23),(4,.val t9),(5,.own 5),(7,.val t3),(8,.val t3)],[(5,.arr t3)]⟩ (.seq .leaf (.block (.loop ⟨[(0,.val t9),(1,.val t23),(4,.val t9),(5,.own 5),(7,.val t3),(8,.val t3),(10,.val t3)],[(5,.arr t3)]⟩ (.seq (.seq .leaf (.cond .leaf .leaf)) (.seq (.block (.seq .leaf (.cond (.seq .leaf .leaf) .leaf))) .leaf))))) (.seq .leaf .leaf))))) .leaf))))) (.seq .leaf .leaf))))
theorem l_k13 (x):funI noU (tabT tab) noPhi Psi_k13 Tryd.f13 b_k13 ann_k13 (.prod t9 t23) (.prod t9 (.prod t29 t4)) x=S_law14_Changed fcNumber.sh x:=by kernel_rfl
theorem spec_k13:FnSpec Tryd.prog 13 (.prod t9 t23) (.prod t9 (.prod t29 t4)) fcChanged.sh:=
 fn_ok mixOk tabOk noU_ok noPhi_ok Psi_k13_ok Tryd.func13 b_k13_ok (by kernel_rfl) fun x=>M.le_trans (M.le_of_eq (l_k13 x)) (sChanged x)
def b_k14:Code:=Tryd.f14.body.getD .skip
theorem b_k14_ok:Tryd.f14.body=some b_k14:=by kernel_rfl
def Psi_k14 (k:Nat):Option KC:=none
theorem Psi_k14_ok:PsiOk Tryd.prog noU Psi_k14:=by
 intro k c h
 unfold Psi_k14 at h
 cases h
def ann_k14:Ann:=(.seq .leaf (.seq .leaf (.join ⟨[(3,.val t3)],[]⟩ (.seq .leaf (.block (.loop ⟨[(0,.val t29),(3,.val t3),(4,.val t3)],[]⟩ (.seq (.seq .leaf (.cond .leaf .leaf)) (.join ⟨[(0,.val t29),(3,.val t3),(4,.val t3)],[]⟩ (.block (.seq .leaf (.join ⟨[(0,.val t29),(3,.val t3),(4,.val t3),(5,.val t3)],[]⟩ (.seq .leaf (.block (.loop ⟨[(0,.val t29),(3,.val t3),(4,.val t3),(5,.val t3),(6,.val t3)],[]⟩ (.seq (.seq .leaf (.cond .leaf .leaf)) (.join ⟨[(0,.val t29),(3,.val t3),(4,.val t3),(5,.val t3),(6,.val t3)],[]⟩ (.block (.seq .leaf (.cond .leaf .leaf))) .leaf))))) .leaf))) .leaf))))) (.seq .leaf .leaf))))
theorem l_k14 (x):funI noU (tabT tab) noPhi Psi_k14 Tryd.f14 b_k14 ann_k14 t29 t3 x=S_law14_often  x:=by kernel_rfl
theorem spec_k14:FnSpec Tryd.prog 14 t29 t3 fcOften.sh:=
 fn_ok mixOk tabOk noU_ok noPhi_ok Psi_k14_ok Tryd.func14 b_k14_ok (by kernel_rfl) fun x=>M.le_trans (M.le_of_eq (l_k14 x)) (sOften x)
end Go.Fer.Sk
namespace Go.Fer.Sk
open Go.Proofs
open M (Step)
set_option maxRecDepth 100000
set_option linter.unusedVariables false
set_option linter.unusedSimpArgs false
def b_k8:Code:=Tryd.f8.body.getD .skip
theorem b_k8_ok:Tryd.f8.body=some b_k8:=by kernel_rfl
def Psi_k8 (k:Nat):Option KC:=if k=10 then some (.sc ⟨t22,t4,fcIsTexts.sh,true⟩) else if k=11 then some (.sc ⟨.unit,t4,fcWorks.sh,true⟩) else if k=12 then some (.sc ⟨t22,(.prod t9 t26),fcWriteP.sh,true⟩) else if k=13 then some (.sc ⟨(.prod t9 t23),(.prod t9 (.prod t29 t4)),fcChanged.sh,true⟩) else if k=14 then some (.sc ⟨t29,t3,fcOften.sh,true⟩) else if k=18 then some (.sc ⟨(.prod t22 t22),t4,fcSameT.sh,true⟩) else if k=25 then some (.sc ⟨(.prod t9 t9),(.prod t22 t26),fcJoin.sh,true⟩) else none
theorem Psi_k8_ok:PsiOk Tryd.prog noU Psi_k8:=by
 intro k c h
 unfold Psi_k8 at h
 split at h
 ·cases h;subst_vars;exact ⟨spec_k10,fun _ _=>M.det_det⟩
 split at h
 ·cases h;subst_vars;exact ⟨spec_k11,fun _ _=>M.det_det⟩
 split at h
 ·cases h;subst_vars;exact ⟨spec_k12,fun _ _=>M.det_det⟩
 split at h
 ·cases h;subst_vars;exact ⟨spec_k13,fun _ _=>M.det_det⟩
 split at h
 ·cases h;subst_vars;exact ⟨spec_k14,fun _ _=>M.det_det⟩
 split at h
 ·cases h;subst_vars;exact ⟨spec_k18,fun _ _=>M.det_det⟩
 split at h
 ·cases h;subst_vars;exact ⟨spec_k25,fun _ _=>M.det_det⟩
 cases h
def ann_k8:Ann:=(.seq .leaf (.seq (.seq .leaf (.cond (.seq .leaf .leaf) .leaf)) (.seq .leaf (.seq (.seq .leaf (.cond (.seq .leaf .leaf) .leaf)) (.seq .leaf (.seq .leaf (.seq (.seq .leaf (.cond (.seq .leaf .leaf) .leaf)) (.join ⟨[(0,.val t22),(7,.val t9),(10,.val t9)],[]⟩ (.seq .leaf (.cond .leaf .leaf)) (.seq .leaf (.seq .leaf .leaf))))))))))
theorem l_k8 (x):funI noU (tabT tab) noPhi Psi_k8 Tryd.f8 b_k8 ann_k8 (.prod t22 t48) t4 x=S_law14_FilesCopies fcIsTexts.sh fcWorks.sh fcWriteP.sh fcChanged.sh fcOften.sh fcSameT.sh fcJoin.sh x:=by kernel_rfl
theorem spec_k8:FnSpec Tryd.prog 8 (.prod t22 t48) t4 (fun x=>S_law14_FilesCopies fcIsTexts.sh fcWorks.sh fcWriteP.sh fcChanged.sh fcOften.sh fcSameT.sh fcJoin.sh x):=
 fn_ok mixOk tabOk noU_ok noPhi_ok Psi_k8_ok Tryd.func8 b_k8_ok (by kernel_rfl) fun x=>M.le_of_eq (l_k8 x)
end Go.Fer.Sk
namespace Go.Fer.Sk
open Go Go.Proofs
set_option linter.unusedVariables false
theorem handed_shaped {H:Type} {enc:TypeId×Value→H} {a:Assume} {C:Checked} {os:Os} {f:FuncId} {fn:Func} {s:ChangeSpec} {conds:List PathCond} {apart fresh handsOn again:Bool} {X:World→Array Value→Prop}
  (hX:∀ (w w':World) (args:Array Value),w.heap=w'.heap→X w args→X w' args)
  (own:ownKnob C.prog.godebug=none) (started:os.Started) (noInit:C.prog.inits.idxOf? f=none) (hfn:C.prog.funcs[f]?=some fn)
  (witness:∃ (w:World) (tape:Tape) (i:Input),w.os=os∧(w.forCall tape i).Shaped C.prog∧i.vars=[]∧Input.okWide C.prog (w.forCall tape i) .any w.heap.size f i∧
   ((s.pre enc C.prog fn conds apart (w.forCall tape i).memory i.args∧X (w.forCall tape i).memory i.args)∧sizedMet enc C.prog fn (OpenSpec.ofChange s) apart (w.forCall tape i).memory i.args)∧a.holds C.prog (lone (Frame.enter C.prog f i.args .normal) [] (w.forCall tape i)))
  (contract:∀ (W:World) (base:Nat) (args:Array Value) (ds gs:List (DataW H)) (before:List MemPlace),
   (∀ (j:Nat) t v,fn.params[j]?=some t→args[j]?=some v→Value.okWide C.prog W .any base t v)→
   DataW.Whole enc C.prog fn.params.toList s.vars apart W args.toList ds gs before→
   W.ShapedOpen C.prog→
   Calls C.prog f args W fun e W'=>∃ v,e=.returned v∧s.post enc C.prog fn apart fresh handsOn again W args v W') :
  ReturnsInHanded a C os f .any (fun w args=>(s.pre enc C.prog fn conds apart w args∧X w args)∧sizedMet enc C.prog fn (OpenSpec.ofChange s) apart w args) (s.post enc C.prog fn apart fresh handsOn again):=by
 refine returnsInHanded_of_calls own started noInit witness ?_
 intro w tape i _ hsh _ hok hpre hholds
 obtain ⟨_,_,_,fn',hfn',_,_,_,_,hval⟩:=hok
 have e:fn'=fn:=Option.some.inj (hfn'.symm.trans hfn)
 subst e
 obtain ⟨⟨⟨ds,gs,before,hw,hc⟩,hx⟩,hz⟩:=hpre
 have hw':=DataW.Whole.of_heap (w':=w.forCall tape i) (by rfl) hw
 refine (contract (w.forCall tape i) w.heap.size i.args ds gs before hval hw' hsh).mono fun e W' ⟨v,he,hp⟩=>?_
 subst he
 exact ChangeSpec.post_blind hp
theorem glob_ok {W:World} (h:W.ShapedOpen Tryd.prog):GlOk Tryd.prog (AllF W) W:=fun _=>by
 have hc:∃ m,W.cell? ⟨0,0,none⟩=some (.int .i64 m):=cell_of_shapedOpen_int (t:=3) (zero:=#[.int .i64 0]) h (of_decide_eq_true (by kernel_rfl)) (by kernel_rfl) rfl (by kernel_rfl) (by kernel_rfl) Tryd.underlying3
 refine ⟨?_,hc⟩
 obtain ⟨m,hm⟩:=hc
 unfold World.cell? at hm
 show 0<W.heap.size
 rcases Nat.eq_zero_or_pos W.heap.size with e | e
 ·have:W.heap[0]?=none:=Array.getElem?_eq_none (by omega)
  rw [this] at hm
  cases hm
 ·exact e
end Go.Fer.Sk
