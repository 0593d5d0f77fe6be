/- Part 6 of the proof of FilesWritten: shallow programs of Go functions, and what they compute. No condition. -/
import Derived.Test.YtgjjjhfempihkaaDoorFilesWrittenE
import Derived.Handed
import Derived.Shelf.Vars
noncomputable section
namespace Go.Fer
open M (Step)
set_option linter.unusedVariables false
set_option linter.unusedSimpArgs false
def hurtAt (p:List Int):List Int:=(idxI p.length).filter fun v=>decide (p.getD v.toNat 0≠-1)
def readL (f:List UInt8):List (List UInt8)×List Int×Int:=((readV f).1,hurtAt (readV f).2.1,(readV f).2.2)
abbrev fcReadF:FC:=⟨.str,.prod (.slice .str) (.prod (.slice (.int .i64)) (.int .i64)),fun x=>List.length x<65536,fun x=>readL x⟩
theorem readV_places (f:List UInt8):(readV f).2.1.length≤f.length:=by
 have:=(blocksV_out f).2
 unfold readV
 split
 ·exact Nat.zero_le _
 ·split
  ·exact Nat.zero_le _
  ·split
   ·exact Nat.zero_le _
   ·unfold placesV;simpa using this
theorem sReadF (x):M.le (S_files_Read fcRead.sh x) (fcReadF.sh x):=M.le_det fun h=>by
 change List UInt8 at x
 generalize x=f at h ⊢
 change f.length<65536 at h
 unfold S_files_Read
 show _=M.pure (readL f)
 have hp:=readV_places f
 rw [show fcRead.sh f=M.pure (readV f) from M.det_true (show f.length<65536 from h) _,M.bind_pure]
 unfold readL
 generalize readV f=r at hp
 obtain ⟨ts,p,e⟩:=r
 change p.length≤f.length at hp
 dsimp only
 rw [M.loop_list (idxI p.length) (fun i (o:List Int)=>(ts,e,p,(p.length:Int),(i:Int),o,())) (fun v o=>.next (if decide (p.getD v.toNat 0≠-1)=true then o++[v] else o)) (fun o=>.next (ts,e,o,())) (fun i o=>o.length≤i) [] ?_ ?_ ?_ ?_]
 ·rw [foldS_next,foldl_filter_app,M.bind_pure,M.go_next]
  rfl
 ·rfl
 ·exact Nat.le_refl _
 ·intro i hi o ho
  rw [idxI_len] at hi
  have hw:=wrap64 (n:=(i:Int)+1) (by omega) (by omega)
  have hzi:((i:Int)).toNat=i:=rfl
  have hd:decide ((i:Int)<(p.length:Int))=true:=decide_eq_true (by omega)
  refine ⟨?_,fun o' ho'=>?_⟩
  ·simp only [hd,if_true,ofNat_def,hzi,Prod.q5,add_defN]
   rw [M.req_true ⟨by omega,by omega⟩,idxI_get (by rw [idxI_len];exact hi),hzi]
   cases decide (p.getD i 0≠-1) with
   | true=>
    rw [if_pos rfl,M.req_true (by unfold lenLe;omega),M.bind_pure,M.go_next]
    dsimp only
    rw [add_def,hw,if_pos rfl]
    rfl
   | false=>
    rw [if_neg (by decide),M.bind_pure,M.go_next]
    dsimp only
    rw [add_def,hw,if_neg (by decide)]
    rfl
  ·simp only [Step.next.injEq] at ho'
   subst ho'
   split<;>(try simp only [List.length_append,List.length_singleton])<;>omega
 ·intro o ho
  rw [idxI_len]
  simp
abbrev fcDamage:FC:=⟨.str,.prod (.slice (.int .i64)) (.int .i64),fun x=>List.length x<65536,fun x=>(readV x).2⟩
theorem sDamage (x):M.le (S_files_Damage fcRead.sh x) (fcDamage.sh x):=M.le_det fun h=>by
 unfold S_files_Damage
 rw [show fcRead.sh x=M.pure (readV x) from M.det_true h _,M.bind_pure]
theorem hurtS_look {l:List (List UInt8)} (h:shaped (wideL l) l):hurtS l=decide ((lookS l).1≠0):=by
 unfold hurtS lookS
 rw [badRows_nums h,badCols_nums h]
 refine decide_eq_decide.2 ?_
 rcases lookI_cases (wideL l) (numsB l) with ⟨e,c⟩ | ⟨e,c⟩ | ⟨r,a,e,_,_,e1,e2,_⟩
 ·rw [e];exact ⟨fun k=>absurd k (by omega),fun k=>absurd rfl k⟩
 ·rw [e];exact ⟨fun _=>by decide,fun _=>by omega⟩
 ·rw [e,e1,e2];exact ⟨fun _=>(by show (1:Int)≠0;decide),fun _=>(by show 0<1+1;decide)⟩
theorem sCheckF (x):M.le (S_files_Check shCut shLook x) (fcCheckF.sh x):=M.le_detR fun h=>by
 change List UInt8 at x
 generalize x=f at h ⊢
 change f.length<65536 at h
 unfold S_files_Check
 show M.Ret _ fun y=>y=checkFV f
 unfold checkFV
 rw [M.ret_bind]
 refine ⟨⟨h,by simp⟩,?_⟩
 rintro ⟨okc,out,m,u⟩ ⟨p1,p2,_⟩
 change okc=(blocksV f).1 at p1
 change PoolB m out (if (blocksV f).1=true then (blocksV f).2 else []) at p2
 subst p1
 have hbl:=(blocksV_out f).2
 have hsh:=blocks_shaped f
 dsimp only
 cases hB:(blocksV f).1 with
 | false=>exact M.ret_pure.2 rfl
 | true=>
  rw [hB,if_pos rfl] at p2
  generalize (blocksV f).2=B at p2 hbl hsh
  have hol:=p2.len
  rw [if_neg (by decide),if_pos rfl,M.ret_bind]
  refine M.ret_loopN B.length (fun i s=>s.1=(((B.take i).filter hurtS).length:Int)∧s.2.1=(B.length:Int)∧s.2.2.1=(i:Int)∧s.2.2.2.1=out∧PoolB s.2.2.2.2.1 out (mix fixS B i)) ⟨rfl,by rw [ofNat_def,hol],rfl,rfl,p2⟩ ?_ ?_
  ·rintro i hi ⟨s1,s2,s3,s4,m',u'⟩ ⟨e1,e2,e3,e4,k1⟩
   change s1=_ at e1
   change s2=_ at e2
   change s3=_ at e3
   change s4=out at e4
   change PoolB m' out _ at k1
   subst e1 e2 e3 e4
   have hi2:i<s4.length:=by omega
   have hw:=wrap64 (n:=(i:Int)+1) (by omega) (by omega)
   have hzi:((i:Int)).toNat=i:=rfl
   have hl:=hsh _ (List.getElem_mem hi)
   have hgm:(mix fixS B i).getD i []=B[i]:=mix_get hi
   obtain ⟨q1,q2,q3,_⟩:=k1.look hi2 (W:=wideL B[i]) (by rw [hgm];exact hl)
   rw [hgm] at q2 q3
   rw [mix_set hi] at q3
   have hlk:shLook (s4.getD i [],m',())=M.pure ((lookS B[i]).1,(lookS B[i]).2,poolL (s4.getD i [],m',()),()):=by
    unfold shLook
    rw [q2]
    exact M.det_true q1 _
   have hcl:((B.take i).filter hurtS).length≤i:=Nat.le_trans (List.length_filter_le _ _) (by simp;omega)
   have hwc:=wrap64 (n:=(((B.take i).filter hurtS).length:Int)+1) (by omega) (by omega)
   have hsucc:((B.take (i+1)).filter hurtS).length=((B.take i).filter hurtS).length+if hurtS B[i]=true then 1 else 0:=by
    rw [List.take_add_one,List.getElem?_eq_getElem hi,List.filter_append,List.length_append]
    congr 1
    cases hh:hurtS B[i]<;>simp [Option.toList,hh]
   rw [hurtS_look hl] at hsucc
   simp only [ofNat_def,lt_len hi,if_true,hzi]
   erw [M.ret_bind]
   rw [M.ret_req]
   refine ⟨⟨by omega,by omega⟩,?_⟩
   rw [hlk,M.bind_pure]
   dsimp only
   cases hc:decide ((lookS B[i]).1≠0) with
   | true=>
    rw [hc] at hsucc
    rw [if_pos rfl]
    refine M.ret_pure.2 (M.ret_pure.2 ?_)
    simp only [add_def,hwc,hw]
    exact ⟨by rw [hsucc,if_pos rfl];omega,trivial,by omega,trivial,q3⟩
   | false=>
    rw [hc] at hsucc
    rw [if_neg (by decide)]
    refine M.ret_pure.2 (M.ret_pure.2 ?_)
    simp only [add_def,hwc,hw]
    exact ⟨by rw [hsucc,if_neg (by decide)];omega,trivial,by omega,trivial,q3⟩
  ·rintro ⟨s1,s2,s3,s4,m',u'⟩ ⟨e1,e2,e3,e4,k1⟩
   change s1=_ at e1
   change s2=_ at e2
   change s3=_ at e3
   change s4=out at e4
   subst e1 e2 e3 e4
   dsimp only
   rw [if_neg (by simp),M.bind_pure]
   refine M.ret_pure.2 ?_
   show M.Ret (M.pure _) _
   rw [List.take_length]
   exact M.ret_pure.2 (by rw [ofNat_def,hol])
theorem PoolB.append {m1 m2:Pool} {out1 out2 O1 O2} (h1:PoolB m1 out1 O1) (h2:PoolB m2 out2 O2) (hk:Kept m1 m2 out2):PoolB m2 (out1++out2) (O1++O2):=by
 have hkey:∀ b∈out1,∀ k∈b,k.1∈m1.map (·.1):=fun b hb k hk=>(h1.ok b hb k hk).key
 refine ⟨h2.nd,fun b hb k hk'=>?_,?_,?_⟩
 ·rcases List.mem_append.1 hb with hb | hb
  ·obtain ⟨k1,k2,k3⟩:=h1.ok b hb k hk'
   obtain ⟨o1,o2⟩:=hk.old k.1 (hkey b hb k hk')
   exact ⟨any_key.2 o2,k2,by rw [o1];exact k3⟩
  ·exact h2.ok b hb k hk'
 ·rw [List.flatten_append,List.map_append,List.nodup_append]
  refine ⟨h1.ids,h2.ids,fun a ha c hc=>?_⟩
  intro e
  subst e
  obtain ⟨k,hk',e⟩:=List.mem_map.1 ha
  obtain ⟨b,hb,hkb⟩:=List.mem_flatten.1 hk'
  exact hk.new a hc (by rw [←e];exact hkey b hb k hkb)
 ·rw [List.map_append,List.map_append,←h1.dat,←h2.dat]
  congr 1
  refine List.map_congr_left fun b hb=>?_
  unfold rowsH
  exact List.map_congr_left fun k hk'=>(hk.old k.1 (hkey b hb k hk')).1
end Go.Fer
namespace Go.Fer
open M (Step)
set_option linter.unusedVariables false
set_option linter.unusedSimpArgs false
set_option maxRecDepth 100000
theorem ex_write:writeV [[97,98],[99]]=([34,97,98,70,10,33,99,32,100,10,35,69,98,43,10,10],0):=by decide +kernel
theorem ex_read:readV [34,97,120,70,10,33,99,32,100,10,35,69,98,43,10,10]=([[97,98],[99]],[2],0):=by decide +kernel
theorem ex_check:checkFV [34,97,120,70,10,33,120,32,100,10,35,69,98,43,10,10]=(1,1,0):=by decide +kernel
abbrev fcWorks:FC:=⟨.unit,.bool,fun _=>True,fun _=>true⟩
theorem sWorks (x):M.le (S_law14_works fcWriteP.sh fcReadF.sh fcDamage.sh fcCheckF.sh fcSameT.sh fcSameI.sh x) (fcWorks.sh x):=M.le_det fun _=>by
 unfold S_law14_works
 have hr:readL [34,97,120,70,10,33,99,32,100,10,35,69,98,43,10,10]=([[97,98],[99]],[0],0):=by
  unfold readL
  rw [ex_read]
  rfl
 have w:fcWriteP.sh [[97,98],[99]]=M.pure ([34,97,98,70,10,33,99,32,100,10,35,69,98,43,10,10],0):=(M.det_true (show ([[97,98],[99]]:List (List UInt8)).length<2 ^ 63 by decide) _).trans (congrArg M.pure ex_write)
 have r:fcReadF.sh [34,97,120,70,10,33,99,32,100,10,35,69,98,43,10,10]=M.pure ([[97,98],[99]],[0],0):=(M.det_true (show ([34,97,120,70,10,33,99,32,100,10,35,69,98,43,10,10]:List UInt8).length<65536 by decide) _).trans (congrArg M.pure hr)
 have d:fcDamage.sh [34,97,120,70,10,33,99,32,100,10,35,69,98,43,10,10]=M.pure ([2],0):=(M.det_true (show ([34,97,120,70,10,33,99,32,100,10,35,69,98,43,10,10]:List UInt8).length<65536 by decide) _).trans (congrArg M.pure (congrArg (·.2) ex_read))
 have c:fcCheckF.sh [34,97,120,70,10,33,120,32,100,10,35,69,98,43,10,10]=M.pure (1,1,0):=(M.det_true (show ([34,97,120,70,10,33,120,32,100,10,35,69,98,43,10,10]:List UInt8).length<65536 by decide) _).trans (congrArg M.pure ex_check)
 have st:fcSameT.sh ([[97,98],[99]],[[97,98],[99]])=M.pure true:=M.det_true (show ([[97,98],[99]]:List (List UInt8)).length<2 ^ 63∧([[97,98],[99]]:List (List UInt8)).length<2 ^ 63 from ⟨by decide,by decide⟩) _
 have si:∀ l:List Int,l.length<2 ^ 63→fcSameI.sh (l,l)=M.pure true:=fun l hl=>(M.det_true (show l.length<2 ^ 63∧l.length<2 ^ 63 from ⟨hl,hl⟩) _).trans (congrArg M.pure (decide_eq_true rfl))
 rw [w,M.bind_pure,r,M.bind_pure,d,M.bind_pure,c,M.bind_pure]
 dsimp only
 rw [st,M.gdo_pure,M.bind_pure,si _ (by decide),M.gdo_pure,M.bind_pure,si _ (by decide),M.gdo_pure,M.bind_pure]
 rfl
theorem works_sh:fcWorks.sh ()=M.pure true:=M.det_true trivial _
theorem sameT_sh {a b:List (List UInt8)} (ha:a.length<2 ^ 63) (hb:b.length<2 ^ 63):fcSameT.sh (a,b)=M.pure (decide (a=b)):=M.det_true (show a.length<2 ^ 63∧b.length<2 ^ 63 from ⟨ha,hb⟩) _
theorem lawWritten (x:List (List UInt8)) (h:x.length<2 ^ 63):S_law14_FilesWritten fcWorks.sh fcWriteP.sh fcSameT.sh fcFar.sh fcWriteR.sh x=M.pure true:=by
 unfold S_law14_FilesWritten
 rw [show fcFar.sh x=M.pure (farV x) from M.det_true (show x.length<2 ^ 63 from h) _,M.bind_pure]
 cases hf:farV x with
 | true=>rw [if_pos rfl,works_sh,M.bind_pure]
 | false=>
  have h60:x.length≤60:=by
   unfold farV at hf
   rw [Bool.or_eq_false_iff,decide_eq_false_iff_not] at hf
   omega
  rw [if_neg (by decide),M.req_true (by show lenLe (0+x.length);unfold lenLe;omega),List.nil_append]
  rw [show fcWriteP.sh x=M.pure (writeV x) from M.det_true (show x.length<2 ^ 63 from h) _,M.bind_pure,show fcWriteR.sh x=M.pure (writeS x) from M.det_true (show x.length<2 ^ 63 from h) _,M.bind_pure,sameT_sh h h,writeS_eq]
  simp only [decide_true,M.gdo_pure,M.bind_pure,Bool.and_true,if_true,works_sh]
end Go.Fer
namespace Go.Fer
open M (Step)
set_option linter.unusedVariables false
set_option linter.unusedSimpArgs false
theorem sChunkIO (l0:Nat) (s:List (List UInt8)) (hs:s.length<65536):M.Ret (S_io_chunk (l0,s,8,(l0,chunkS (some s,some 8),[],false),())) fun y=>y.1.2.2.2=false→chunkS (some s,some 8) y.1.2.2.1:=by
 have hS:∀ L,chunkS (some s,some 8) L↔L=chunks s:=fun L=>⟨fun ⟨l,e,_,h⟩=>by cases e;exact h,fun e=>⟨s,rfl,hs,e⟩⟩
 generalize chunkS (some s,some 8)=S at *
 unfold S_io_chunk
 dsimp only
 refine M.ret_loop (fun σ=>∃ k:Nat,k≤(chunks s).length∧σ=(l0,s,8,((8*k:Nat):Int),(l0,S,(chunks s).take k,false),())) (fun σ=>(s.length+8 - σ.2.2.2.1.toNat)) ?_ _ ⟨0,Nat.zero_le _,rfl⟩
 rintro σ ⟨k,hk,rfl⟩
 dsimp only
 by_cases hk8:8*k<s.length
 ·have hkc:=chunks_lt.2 hk8
  have hd:decide (((8*k:Nat):Int)<(s.length:Int))=true:=decide_eq_true (by omega)
  have hz:∀ n:Nat,((n:Int)).toNat=n:=fun _=>rfl
  have hdl:(List.drop (8*k) s).length=s.length - 8*k:=List.length_drop ..
  have hm:(if (((List.drop (8*k) s).length:Nat):Int)<8 then (((List.drop (8*k) s).length:Nat):Int) else 8)=((min 8 (s.length - 8*k):Nat):Int):=by rw [hdl];split<;>omega
  have hw:=wrap64 (n:=((8*k:Nat):Int)+((min 8 (s.length - 8*k):Nat):Int)) (by omega) (by omega)
  have hw2:=wrap64 (n:=((8*k:Nat):Int)+8) (by omega) (by omega)
  have ez:(((8*k:Nat):Int)+((min 8 (s.length - 8*k):Nat):Int)).toNat=8*k+min 8 (s.length - 8*k):=by omega
  have hc:List.drop (8*k) (List.take (8*k+min 8 (s.length - 8*k)) s)=(chunks s)[k]:=by
   rw [chunks_get hkc,List.drop_take]
   have:8*k+min 8 (s.length - 8*k) - 8*k=min 8 (s.length - 8*k):=by omega
   rw [this]
   rcases Nat.lt_or_ge 8 (s.length - 8*k) with h | h
   ·rw [Nat.min_eq_left (by omega)]
   ·rw [Nat.min_eq_right h,List.take_of_length_le (by rw [hdl];exact Nat.le_refl _),List.take_of_length_le (by rw [hdl];exact h)]
  simp only [ofNat_def,hd,if_true,hz,List.take_length,hm,add_def,hw,hw2,ez,hc]
  rw [M.ret_req]
  refine ⟨⟨by omega,by omega,Int.le_refl _⟩,?_⟩
  rw [M.ret_req]
  refine ⟨⟨by omega,by omega,trivial,by omega⟩,?_⟩
  rw [M.ret_bind,M.ret_req]
  refine ⟨⟨trivial,trivial,(chunks s).drop (k+1),(hS _).2 ?_⟩,⟨true,trivial⟩,fun y _=>?_⟩
  ·rw [←List.drop_eq_getElem_cons hkc,List.take_append_drop]
  ·cases y with
   | false=>
    simp only [Bool.not_false,if_true,M.bind_pure]
    exact M.ret_pure.2 fun h=>by cases h
   | true=>
    simp only [Bool.not_true,Bool.false_eq_true,if_false]
    refine M.ret_pure.2 ⟨⟨k+1,hkc,?_⟩,?_⟩
    ·rw [List.take_add_one,List.getElem?_eq_getElem hkc,show ((8*(k+1):Nat):Int)=((8*k:Nat):Int)+8 by omega]
     rfl
    ·show s.length+8 - (((8*k:Nat):Int)+8).toNat<s.length+8 - (((8*k:Nat):Int)).toNat
     omega
 ·have hd:decide (((8*k:Nat):Int)<(s.length:Int))=false:=decide_eq_false (by omega)
  simp only [ofNat_def,hd,Bool.false_eq_true,if_false,M.bind_pure]
  refine M.ret_pure.2 fun _=>(hS _).2 ?_
  refine List.take_of_length_le ?_
  rcases Nat.lt_or_ge k (chunks s).length with h | h
  ·exact absurd (chunks_lt.1 h) hk8
  ·exact h
end Go.Fer
namespace Go.Fer
open M (Step)
set_option linter.unusedVariables false
def S_io_colf (x:List (List Int)×Int×Int×Unit):M (List Int×Unit):=
 M.bind (M.req ((0:Int)≤0∧0≤IntKind.wrap .i64 (Int.ofNat (List.length x.1) - x.2.2.1)∧IntKind.wrap .i64 (Int.ofNat (List.length x.1) -
 x.2.2.1)≤Int.ofNat (List.length x.1)) (M.loop (fun (σ:Int×List (List Int)×Int×Int×List Int×Unit)=>if decide (σ.2.2.2.1<σ.2.2.1)=
 true then M.req (0≤σ.2.2.2.1∧σ.2.2.2.1<Int.ofNat (List.length σ.2.1)) (M.req (0≤σ.1∧σ.1<Int.ofNat (List.length (List.getD σ.2.1
 (Int.toNat σ.2.2.2.1) []))) (M.req (lenLe (Add.add (List.length σ.2.2.2.2.1) (Add.add 0 1))) (M.pure (Step.next (σ.1,σ.2.1,σ.2.2.1,IntKind.wrap
 .i64 (Add.add σ.2.2.2.1 1),σ.2.2.2.2.1++[List.getD (List.getD σ.2.1 (Int.toNat σ.2.2.2.1) []) (Int.toNat σ.1) 0],()))))) else M.bind (M.pure
 (Step.next (σ.2.2.2.2.1,()))) fun r=>M.pure (Step.done r)) (x.2.1,List.take (Int.toNat (IntKind.wrap .i64 (Int.ofNat (List.length x.1) -
 x.2.2.1))) x.1,Int.ofNat (List.length (List.take (Int.toNat (IntKind.wrap .i64 (Int.ofNat (List.length x.1) - x.2.2.1))) x.1)),0,[],())))
 (Step.go fun (σ:List Int×Unit)=>M.pure (σ.1,()))
end Go.Fer
namespace Go.Fer
open M (Step)
set_option linter.unusedVariables false
set_option linter.unusedSimpArgs false
def shColF (x:List (List Int)×Int×Int×Unit):M (List Int×Unit):=M.det (preCol x.1 x.2.1 x.2.2.1) (colI (x.1.take (x.1.length - x.2.2.1.toNat)) x.2.1,())
theorem sColF (x):M.le (S_io_colf x) (shColF x):=M.le_det fun h=>by
 obtain ⟨l,c,w,u⟩:=x
 obtain ⟨h1,⟨h2,h3⟩,h4,h5⟩:preCol l c w:=h
 unfold S_io_colf
 dsimp only
 have hw:=wrap64 (n:=(l.length:Int) - w) (by omega) (by omega)
 simp only [ofNat_def,hw]
 have e:((l.length:Int) - w).toNat=l.length - w.toNat:=by omega
 rw [M.req_true ⟨Int.le_refl _,by omega,by omega⟩,e]
 generalize hk:l.take (l.length - w.toNat)=k
 have hkl:k.length<65536:=by rw [←hk];simp;omega
 have hkr:∀ r∈k,c<(r.length:Int):=fun r hr=>h5 r (by rw [←hk] at hr;exact List.mem_of_mem_take hr)
 rw [M.loop_list k (fun i (o:List Int)=>(c,k,(k.length:Int),(i:Int),o,())) (fun r o=>.next (o++[r.getD c.toNat 0])) (fun o=>.next (o,())) (fun i o=>o.length=i) [] ?_ ?_ ?_ ?_]
 ·rw [foldS_next,M.bind_pure,M.go_next]
  dsimp only
  rw [show k.foldl (fun o r=>o++[r.getD c.toNat 0]) []=colI k c from by rw [foldl_map_app];rfl]
 ·rfl
 ·rfl
 ·intro i hi o ho
  have hw2:=wrap64 (n:=(i:Int)+1) (by omega) (by omega)
  have hr:=hkr _ (List.getElem_mem hi)
  refine ⟨?_,fun o' ho'=>?_⟩
  ·simp only [ofNat_def,lt_len hi,if_true,getD_nat hi,in_len hi,M.req_True,add_def,add_defN,hw2]
   rw [M.req_true ⟨h4,hr⟩,M.req_true (by unfold lenLe;omega)]
   rfl
  ·simp only [Step.next.injEq] at ho'
   subst ho'
   simp [ho]
 ·intro o ho
  simp
end Go.Fer
namespace Go.Fer
open Go
theorem cut2_index:∀ s:List UInt8,(cut2 s=none∧Lib.index s [10,10]=-1)∨∃ t r,cut2 s=some (t,r)∧Lib.index s [10,10]=(t.length:Int)∧s=t++10::10::r
 | []=>.inl ⟨rfl,rfl⟩
 | b::l=>by
  unfold cut2 Lib.index
  by_cases hc:b=10∧l.head?=some 10
  ·obtain ⟨rfl,hl⟩:=hc
   cases l with
   | nil=>cases hl
   | cons c l=>
    simp only [List.head?_cons,Option.some.injEq] at hl
    subst hl
    exact .inr ⟨[],l,by simp,by simp,rfl⟩
  ·have hp:List.isPrefixOf [10,10] (b::l)=false:=by
    cases hq:List.isPrefixOf [10,10] (b::l) with
    | false=>rfl
    | true=>
     cases l with
     | nil=>simp [List.isPrefixOf] at hq
     | cons c l=>
      simp [List.isPrefixOf] at hq
      exact absurd ⟨hq.1.symm,by rw [←hq.2];rfl⟩ hc
   rw [if_neg hc,hp]
   rcases cut2_index l with ⟨h1,h2⟩ | ⟨t,r,h1,h2,h3⟩
   ·rw [h1,h2]
    exact .inl ⟨rfl,rfl⟩
   ·rw [h1,h2]
    refine .inr ⟨b::t,r,rfl,?_,by rw [h3];rfl⟩
    have:((t.length:Int) == -1)=false:=by rw [beq_eq_false_iff_ne];omega
    rw [this]
    simp
theorem cut_eq (s:List UInt8):Lib.cut s [10,10]=match cut2 s with | some p=>(p.1,p.2,true) | none=>(s,[],false):=by
 unfold Lib.cut
 rcases cut2_index s with ⟨h1,h2⟩ | ⟨t,r,h1,h2,h3⟩
 ·rw [h1,h2]
  rfl
 ·rw [h1,h2,if_pos (by omega)]
  have e:((t.length:Int)).toNat=t.length:=rfl
  rw [e,h3]
  simp
theorem lines_index:∀ s:List UInt8,(Lib.index s [10]=-1∧linesOf s=[s])∨∃ t r,s=t++10::r∧Lib.index s [10]=(t.length:Int)∧linesOf s=t::linesOf r
 | []=>.inl ⟨rfl,rfl⟩
 | b::l=>by
  unfold Lib.index
  by_cases hb:b=10
  ·subst hb
   exact .inr ⟨[],l,rfl,by simp [List.isPrefixOf],linesOf_ten l⟩
  ·have hp:List.isPrefixOf [10] (b::l)=false:=by
    simp [List.isPrefixOf]
    exact fun k=>hb k.symm
   rw [hp]
   obtain ⟨x,xs,e1,e2⟩:=linesOf_cons hb l
   rcases lines_index l with ⟨h1,h2⟩ | ⟨t,r,h1,h2,h3⟩
   ·rw [h1]
    refine .inl ⟨rfl,?_⟩
    rw [e1] at h2
    cases h2
    exact e2
   ·rw [h2]
    refine .inr ⟨b::t,r,by rw [h1];rfl,?_,?_⟩
    ·have:((t.length:Int) == -1)=false:=by rw [beq_eq_false_iff_ne];omega
     rw [this]
     simp
    ·rw [e1] at h3
     cases h3
     exact e2
theorem splitK_lines:∀ (n:Nat) (s:List UInt8),s.length≤n→Lib.splitK [10] 0 (Lib.count s [10]) s=linesOf s:=by
 intro n
 induction n with
 | zero=>
  intro s h
  have:s=[]:=List.eq_nil_of_length_eq_zero (by omega)
  subst this
  rfl
 | succ n ih=>
  intro s h
  rcases lines_index s with ⟨h1,h2⟩ | ⟨t,r,h1,h2,h3⟩
  ·rw [Lib.count_miss h1,h2]
   rfl
  ·rw [Lib.count_hit (by simp) h2,h3,Nat.add_comm,Lib.splitK,h2]
   have:((t.length:Int) == -1)=false:=by rw [beq_eq_false_iff_ne];omega
   rw [this]
   have e:((t.length:Int)).toNat=t.length:=rfl
   have ed:s.drop (t.length+1)=r:=by rw [h1];simp
   have et:s.take t.length=t:=by rw [h1];simp
   simp only [Bool.false_eq_true,if_false,e,Nat.add_zero,List.length_cons,List.length_nil,Nat.zero_add,ed,et]
   rw [ih r (by rw [h1] at h;simp only [List.length_append,List.length_cons] at h;omega)]
theorem split_eq (s:List UInt8):Sk.splitV s [10]=linesOf s:=by
 unfold Sk.splitV
 rw [Lib.splitB_data]
 exact splitK_lines s.length s (Nat.le_refl _)
theorem rep_eq (s:List UInt8):∀ n,Lib.repeatL s n=repL s n
 | 0=>rfl
 | n+1=>by
  have:=rep_eq s n
  unfold repL at this ⊢
  rw [List.replicate_succ,List.flatten_cons,←this]
  rfl
namespace Sk
open Go.Proofs
set_option maxRecDepth 100000
theorem spec_k29:FnSpec Tryd.prog 29 t9 t4 fcIsT.sh:=spec_isText
theorem spec_k49:FnSpec Tryd.prog 49 (.prod t9 t9) (.prod t9 (.prod t9 t4)) fcCutP.sh:=spec_cut.weaken fun x=>M.le_det fun h=>by
 obtain ⟨s,sep⟩:=x
 obtain ⟨rfl,h2⟩:=h
 refine (M.det_true (show s.length<4294967281 from h2) _).trans (congrArg M.pure ?_)
 exact cut_eq s
theorem spec_k50:FnSpec Tryd.prog 50 (.prod t9 t9) t22 fcSplitP.sh:=spec_split.weaken fun x=>M.le_det fun h=>by
 obtain ⟨s,sep⟩:=x
 obtain ⟨rfl,h2⟩:=h
 refine (M.det_true (show s.length<4294967281∧1≤([10]:List UInt8).length from ⟨h2,by decide⟩) _).trans (congrArg M.pure ?_)
 exact split_eq s
theorem spec_k69:FnSpec Tryd.prog 69 (.prod t9 t3) t9 fcRep.sh:=spec_rep.weaken fun x=>M.le_det fun h=>by
 refine (M.det_true h _).trans (congrArg M.pure ?_)
 exact rep_eq _ _
abbrev t55r:Ty:=.raws t5
abbrev t63r:Ty:=.slice t55r
abbrev t59r:Ty:=.slice t63r
def tabR:List (Nat×Ty):=[(55,t55r),(63,t63r),(59,t59r)]++tab
theorem tabROk:TabOk Tryd.prog (tabT tabR):=tabT_ok (by kernel_rfl)
def b_cc67:Code:=Tryd.f67.body.getD .skip
theorem b_cc67_ok:Tryd.f67.body=some b_cc67:=by kernel_rfl
def ioc_ccheck:IOC:=⟨⟨[(0,.loc 100001 0)],[(100001,.cells t84 [.nos 100001,.own 100002]),(100002,.arr t5)]⟩,⟨[],[(100001,.cells t84 [.nos 100001,.own 100002]),(100002,.arr t5)]⟩,[],1,shCopyC⟩
theorem io_ccheck:IoSpec Tryd.prog noU 67 ioc_ccheck:=copy_io (n:=82) (ρ:=Tryd.lays105_ren) { Tryd.lays105 with } { Tryd.Builder_Extra_105 with } (by kernel_rfl) (callFunc_enter Tryd.func67 b_cc67_ok (by kernel_rfl))
end Sk
end Go.Fer
namespace Go.Fer.Sk
open Go.Proofs
open M (Step)
set_option maxRecDepth 100000
set_option linter.unusedVariables false
set_option linter.unusedSimpArgs false
def b_k35:Code:=Tryd.f35.body.getD .skip
theorem b_k35_ok:Tryd.f35.body=some b_k35:=by kernel_rfl
def Psi_k35 (k:Nat):Option KC:=none
theorem Psi_k35_ok:PsiOk Tryd.prog noU Psi_k35:=by
 intro k c h
 unfold Psi_k35 at h
 cases h
def ann_k35:Ann:=(.seq .leaf (.join ⟨[],[]⟩ (.seq .leaf (.block (.loop ⟨[(0,.val t9),(3,.val t3)],[]⟩ (.seq (.seq .leaf (.cond .leaf .leaf)) (.seq (.block (.seq .leaf (.cond (.seq .leaf .leaf) .leaf))) .leaf))))) (.seq .leaf .leaf)))
theorem l_k35 (x):funI noU (tabT tab) noPhi Psi_k35 Tryd.f35 b_k35 ann_k35 t9 t4 x=S_ref14_IsPlain  x:=by kernel_rfl
theorem spec_k35:FnSpec Tryd.prog 35 t9 t4 fcIsPlain.sh:=
 fn_ok mixOk tabOk noU_ok noPhi_ok Psi_k35_ok Tryd.func35 b_k35_ok (by kernel_rfl) fun x=>M.le_trans (M.le_of_eq (l_k35 x)) (sIsPlain x)
def b_k36:Code:=Tryd.f36.body.getD .skip
theorem b_k36_ok:Tryd.f36.body=some b_k36:=by kernel_rfl
def Psi_k36 (k:Nat):Option KC:=none
theorem Psi_k36_ok:PsiOk Tryd.prog noU Psi_k36:=by
 intro k c h
 unfold Psi_k36 at h
 cases h
def ann_k36:Ann:=(.seq .leaf (.seq .leaf (.join ⟨[(3,.val t9)],[]⟩ (.seq .leaf (.block (.loop ⟨[(0,.val t22),(3,.val t9),(4,.val t3)],[]⟩ (.seq (.seq .leaf (.cond .leaf .leaf)) (.seq (.block .leaf) .leaf))))) (.seq .leaf .leaf))))
theorem l_k36 (x):funI noU (tabT tab) noPhi Psi_k36 Tryd.f36 b_k36 ann_k36 t22 t9 x=S_ref14_text  x:=by kernel_rfl
theorem spec_k36:FnSpec Tryd.prog 36 t22 t9 fcTextR.sh:=
 fn_ok mixOk tabOk noU_ok noPhi_ok Psi_k36_ok Tryd.func36 b_k36_ok (by kernel_rfl) fun x=>M.le_trans (M.le_of_eq (l_k36 x)) (sTextR x)
def b_k58:Code:=Tryd.f58.body.getD .skip
theorem b_k58_ok:Tryd.f58.body=some b_k58:=by kernel_rfl
def Psi_k58 (k:Nat):Option KC:=none
theorem Psi_k58_ok:PsiOk Tryd.prog noU Psi_k58:=by
 intro k c h
 unfold Psi_k58 at h
 cases h
def ann_k58:Ann:=(.seq .leaf (.seq .leaf .leaf))
theorem l_k58 (x):funI noU (tabT tab) noPhi Psi_k58 Tryd.f58 b_k58 ann_k58 t3 t9 x=S_ref14_written  x:=by kernel_rfl
theorem spec_k58:FnSpec Tryd.prog 58 t3 t9 fcWritten.sh:=
 fn_ok mixOk tabOk noU_ok noPhi_ok Psi_k58_ok Tryd.func58 b_k58_ok (by kernel_rfl) fun x=>M.le_trans (M.le_of_eq (l_k58 x)) (sWrittenR x)
def b_k62:Code:=Tryd.f62.body.getD .skip
theorem b_k62_ok:Tryd.f62.body=some b_k62:=by kernel_rfl
def Psi_k62 (k:Nat):Option KC:=none
theorem Psi_k62_ok:PsiOk Tryd.prog noU Psi_k62:=by
 intro k c h
 unfold Psi_k62 at h
 cases h
def ann_k62:Ann:=(.seq .leaf (.seq .leaf .leaf))
theorem l_k62 (x):funI noU (tabT tab) noPhi Psi_k62 Tryd.f62 b_k62 ann_k62 t5 t3 x=S_ref14_value  x:=by kernel_rfl
theorem spec_k62:FnSpec Tryd.prog 62 t5 t3 fcValue.sh:=
 fn_ok mixOk tabOk noU_ok noPhi_ok Psi_k62_ok Tryd.func62 b_k62_ok (by kernel_rfl) fun x=>M.le_trans (M.le_of_eq (l_k62 x)) (sValue x)
def b_k59:Code:=Tryd.f59.body.getD .skip
theorem b_k59_ok:Tryd.f59.body=some b_k59:=by kernel_rfl
def Psi_k59 (k:Nat):Option KC:=if k=58 then some (.sc ⟨t3,t9,fcWritten.sh,true⟩) else if k=62 then some (.sc ⟨t5,t3,fcValue.sh,true⟩) else none
theorem Psi_k59_ok:PsiOk Tryd.prog noU Psi_k59:=by
 intro k c h
 unfold Psi_k59 at h
 split at h
 ·cases h;subst_vars;exact ⟨spec_k58,fun _ _=>M.det_det⟩
 split at h
 ·cases h;subst_vars;exact ⟨spec_k62,fun _ _=>M.det_det⟩
 cases h
def ann_k59:Ann:=(.seq .leaf (.seq .leaf (.join ⟨[(3,.val t3)],[]⟩ (.seq .leaf (.block (.loop ⟨[(0,.val t9),(3,.val t3),(4,.val t3)],[]⟩ (.seq (.seq .leaf (.cond .leaf .leaf)) (.seq (.block .leaf) .leaf))))) (.seq .leaf .leaf))))
theorem l_k59 (x):funI noU (tabT tab) noPhi Psi_k59 Tryd.f59 b_k59 ann_k59 t9 t9 x=S_ref14_check fcWritten.sh fcValue.sh x:=by kernel_rfl
theorem spec_k59:FnSpec Tryd.prog 59 t9 t9 fcCheckR.sh:=
 fn_ok mixOk tabOk noU_ok noPhi_ok Psi_k59_ok Tryd.func59 b_k59_ok (by kernel_rfl) fun x=>M.le_trans (M.le_of_eq (l_k59 x)) (sCheckR x)
def b_k60:Code:=Tryd.f60.body.getD .skip
theorem b_k60_ok:Tryd.f60.body=some b_k60:=by kernel_rfl
def Psi_k60 (k:Nat):Option KC:=none
theorem Psi_k60_ok:PsiOk Tryd.prog noU Psi_k60:=by
 intro k c h
 unfold Psi_k60 at h
 cases h
def ann_k60:Ann:=(.seq .leaf (.seq .leaf (.join ⟨[(5,.val t9)],[]⟩ (.seq .leaf (.block (.loop ⟨[(0,.val t22),(1,.val t3),(5,.val t9),(6,.val t3)],[]⟩ (.seq (.seq .leaf (.cond .leaf .leaf)) (.seq (.block .leaf) .leaf))))) (.seq .leaf .leaf))))
theorem l_k60 (x):funI noU (tabT tab) noPhi Psi_k60 Tryd.f60 b_k60 ann_k60 (.prod t22 t3) t9 x=S_ref14_column  x:=by kernel_rfl
theorem spec_k60:FnSpec Tryd.prog 60 (.prod t22 t3) t9 fcColumnR.sh:=
 fn_ok mixOk tabOk noU_ok noPhi_ok Psi_k60_ok Tryd.func60 b_k60_ok (by kernel_rfl) fun x=>M.le_trans (M.le_of_eq (l_k60 x)) (sColumnR x)
def b_k37:Code:=Tryd.f37.body.getD .skip
theorem b_k37_ok:Tryd.f37.body=some b_k37:=by kernel_rfl
def Psi_k37 (k:Nat):Option KC:=if k=58 then some (.sc ⟨t3,t9,fcWritten.sh,true⟩) else if k=59 then some (.sc ⟨t9,t9,fcCheckR.sh,true⟩) else if k=60 then some (.sc ⟨(.prod t22 t3),t9,fcColumnR.sh,true⟩) else none
theorem Psi_k37_ok:PsiOk Tryd.prog noU Psi_k37:=by
 intro k c h
 unfold Psi_k37 at h
 split at h
 ·cases h;subst_vars;exact ⟨spec_k58,fun _ _=>M.det_det⟩
 split at h
 ·cases h;subst_vars;exact ⟨spec_k59,fun _ _=>M.det_det⟩
 split at h
 ·cases h;subst_vars;exact ⟨spec_k60,fun _ _=>M.det_det⟩
 cases h
def ann_k37:Ann:=(.seq .leaf (.seq .leaf (.join ⟨[(0,.val t22),(3,.val t3)],[]⟩ (.seq .leaf (.block (.loop ⟨[(0,.val t22),(3,.val t3),(4,.val t3)],[]⟩ (.seq (.seq .leaf (.cond .leaf .leaf)) (.seq (.block .leaf) .leaf))))) (.seq .leaf (.join ⟨[(3,.val t3),(5,.own 5)],[(5,.arr t9)]⟩ (.seq .leaf (.block (.loop ⟨[(0,.val t22),(3,.val t3),(5,.own 5),(6,.val t3)],[(5,.arr t9)]⟩ (.seq (.seq .leaf (.cond .leaf .leaf)) (.join ⟨[(0,.val t22),(3,.val t3),(5,.own 5),(6,.val t3)],[(5,.arr t9)]⟩ (.block (.seq .leaf (.join ⟨[(0,.val t22),(3,.val t3),(5,.own 5),(6,.val t3),(7,.val t9)],[(5,.arr t9)]⟩ (.block (.loop ⟨[(0,.val t22),(3,.val t3),(5,.own 5),(6,.val t3),(7,.val t9)],[(5,.arr t9)]⟩ (.seq (.seq .leaf (.cond .leaf .leaf)) (.block .leaf)))) .leaf))) .leaf))))) (.seq .leaf (.join ⟨[(5,.own 5),(8,.val t9)],[(5,.arr t9)]⟩ (.seq .leaf (.block (.loop ⟨[(3,.val t3),(5,.own 5),(8,.val t9),(9,.val t3)],[(5,.arr t9)]⟩ (.seq (.seq .leaf (.cond .leaf .leaf)) (.seq (.block .leaf) .leaf))))) (.seq .leaf .leaf))))))))
theorem l_k37 (x):funI noU (tabT tab) noPhi Psi_k37 Tryd.f37 b_k37 ann_k37 t22 t22 x=S_ref14_block fcWritten.sh fcCheckR.sh fcColumnR.sh x:=by kernel_rfl
theorem spec_k37:FnSpec Tryd.prog 37 t22 t22 fcBlockR.sh:=
 fn_ok mixOk tabOk noU_ok noPhi_ok Psi_k37_ok Tryd.func37 b_k37_ok (by kernel_rfl) fun x=>M.le_trans (M.le_of_eq (l_k37 x)) (sBlockR x)
def b_k20:Code:=Tryd.f20.body.getD .skip
theorem b_k20_ok:Tryd.f20.body=some b_k20:=by kernel_rfl
def Psi_k20 (k:Nat):Option KC:=if k=35 then some (.sc ⟨t9,t4,fcIsPlain.sh,true⟩) else if k=36 then some (.sc ⟨t22,t9,fcTextR.sh,true⟩) else if k=37 then some (.sc ⟨t22,t22,fcBlockR.sh,true⟩) else none
theorem Psi_k20_ok:PsiOk Tryd.prog noU Psi_k20:=by
 intro k c h
 unfold Psi_k20 at h
 split at h
 ·cases h;subst_vars;exact ⟨spec_k35,fun _ _=>M.det_det⟩
 split at h
 ·cases h;subst_vars;exact ⟨spec_k36,fun _ _=>M.det_det⟩
 split at h
 ·cases h;subst_vars;exact ⟨spec_k37,fun _ _=>M.det_det⟩
 cases h
def ann_k20:Ann:=(.seq .leaf (.seq (.seq .leaf (.cond (.seq .leaf .leaf) .leaf)) (.join ⟨[(0,.val t22)],[]⟩ (.seq .leaf (.block (.loop ⟨[(0,.val t22),(4,.val t3)],[]⟩ (.seq (.seq .leaf (.cond .leaf .leaf)) (.seq (.block (.seq .leaf (.cond (.seq .leaf .leaf) .leaf))) .leaf))))) (.seq .leaf (.join ⟨[(5,.val t9)],[]⟩ (.seq .leaf (.block (.loop ⟨[(0,.val t22),(5,.val t9),(6,.val t3)],[]⟩ (.seq (.seq .leaf (.cond .leaf .leaf)) (.seq (.block .leaf) .leaf))))) (.seq .leaf .leaf))))))
theorem l_k20 (x):funI noU (tabT tab) noPhi Psi_k20 Tryd.f20 b_k20 ann_k20 t22 (.prod t9 t26) x=S_ref14_Write fcIsPlain.sh fcTextR.sh fcBlockR.sh x:=by kernel_rfl
theorem spec_k20:FnSpec Tryd.prog 20 t22 (.prod t9 t26) fcWriteR.sh:=
 fn_ok mixOk tabOk noU_ok noPhi_ok Psi_k20_ok Tryd.func20 b_k20_ok (by kernel_rfl) fun x=>M.le_trans (M.le_of_eq (l_k20 x)) (sWriteR x)
end Go.Fer.Sk
namespace Go.Fer.Sk
open Go.Proofs
open M (Step)
set_option maxRecDepth 100000
set_option linter.unusedVariables false
set_option linter.unusedSimpArgs false
def b_k44:Code:=Tryd.f44.body.getD .skip
theorem b_k44_ok:Tryd.f44.body=some b_k44:=by kernel_rfl
def Psi_k44 (k:Nat):Option KC:=none
theorem Psi_k44_ok:PsiOk Tryd.prog noU Psi_k44:=by
 intro k c h
 unfold Psi_k44 at h
 cases h
def ann_k44:Ann:=(.seq .leaf (.join ⟨[],[]⟩ (.seq .leaf (.block (.loop ⟨[(0,.val t22),(1,.val t44),(7,.val t3),(8,.val t3)],[]⟩ (.seq .leaf (.seq (.cond .leaf .leaf) (.seq (.block (.seq .leaf (.seq .leaf (.cond (.seq .leaf .leaf) .leaf)))) .leaf)))))) (.seq .leaf .leaf)))
theorem l_k44 (x):funI noU (tabT tab) noPhi Psi_k44 Tryd.f44 b_k44 ann_k44 (.prod t22 t44) t3 x=S_slices_IndexFunc_string_string  x:=by kernel_rfl
theorem spec_k44:FnSpec Tryd.prog 44 (.prod t22 t44) t3 (fcIndexFunc .str).sh:=
 fn_ok mixOk tabOk noU_ok noPhi_ok Psi_k44_ok Tryd.func44 b_k44_ok (by kernel_rfl) fun x=>M.le_trans (M.le_of_eq (l_k44 x)) (sIndexFuncT x)
def b_k27:Code:=Tryd.f27.body.getD .skip
theorem b_k27_ok:Tryd.f27.body=some b_k27:=by kernel_rfl
def Psi_k27 (k:Nat):Option KC:=if k=44 then some (.sc ⟨(.prod t22 t44),t3,(fcIndexFunc .str).sh,true⟩) else none
theorem Psi_k27_ok:PsiOk Tryd.prog noU Psi_k27:=by
 intro k c h
 unfold Psi_k27 at h
 split at h
 ·cases h;subst_vars;exact ⟨spec_k44,fun _ _=>M.det_det⟩
 cases h
def ann_k27:Ann:=(.seq .leaf (.seq .leaf .leaf))
theorem l_k27 (x):funI noU (tabT tab) noPhi Psi_k27 Tryd.f27 b_k27 ann_k27 (.prod t22 t44) t4 x=S_slices_ContainsFunc_string_string (fcIndexFunc .str).sh x:=by kernel_rfl
theorem spec_k27:FnSpec Tryd.prog 27 (.prod t22 t44) t4 (fcContainsFunc .str).sh:=
 fn_ok mixOk tabOk noU_ok noPhi_ok Psi_k27_ok Tryd.func27 b_k27_ok (by kernel_rfl) fun x=>M.le_trans (M.le_of_eq (l_k27 x)) (sContainsFuncT x)
def b_k28:Code:=Tryd.f28.body.getD .skip
theorem b_k28_ok:Tryd.f28.body=some b_k28:=by kernel_rfl
def Psi_k28 (k:Nat):Option KC:=if k=29 then some (.sc ⟨t9,t4,fcIsT.sh,true⟩) else none
theorem Psi_k28_ok:PsiOk Tryd.prog noU Psi_k28:=by
 intro k c h
 unfold Psi_k28 at h
 split at h
 ·cases h;subst_vars;exact ⟨spec_k29,fun _ _=>M.det_det⟩
 cases h
def ann_k28:Ann:=(.seq .leaf (.seq .leaf .leaf))
theorem l_k28 (x):funI noU (tabT tab) noPhi Psi_k28 Tryd.f28 b_k28 ann_k28 t9 t4 x=S_files_Write_c1 fcIsT.sh x:=by kernel_rfl
theorem spec_k28:FnSpec Tryd.prog 28 t9 t4 fcBadT.sh:=
 fn_ok mixOk tabOk noU_ok noPhi_ok Psi_k28_ok Tryd.func28 b_k28_ok (by kernel_rfl) fun x=>M.le_trans (M.le_of_eq (l_k28 x)) (sBadT x)
def b_kbstr:Code:=Tryd.f48.body.getD .skip
theorem b_kbstr_ok:Tryd.f48.body=some b_kbstr:=by kernel_rfl
def Psi_kbstr (k:Nat):Option KC:=none
theorem Psi_kbstr_ok:PsiOk Tryd.prog noU Psi_kbstr:=by
 intro k c h
 unfold Psi_kbstr at h
 cases h
def ioc_bstr:IOC:=⟨⟨[(0,.loc 100001 0)],[(100001,.cells t84 [.nos 100001,.own 100002]),(100002,.arr t5)]⟩,⟨[(0,.val t9)],[(100001,.cells t84 [.nos 100001,.undef])]⟩,[none],1,shBStr⟩
def ann_kbstr:Ann:=(.seq .leaf (.seq .leaf .leaf))
theorem l_kbstr (x):funIO noU (tabT tab) noPhi Psi_kbstr Tryd.f48 b_kbstr ann_kbstr ⟨[(0,.loc 100001 0)],[(100001,.cells t84 [.nos 100001,.own 100002]),(100002,.arr t5)]⟩ ⟨[(0,.val t9)],[(100001,.cells t84 [.nos 100001,.undef])]⟩ [none] x=S_io_bstr  x:=by kernel_rfl
theorem io_bstr:IoSpec Tryd.prog noU 48 ioc_bstr:=
 fnIO_ok mixOk tabOk noPhi_ok Psi_kbstr_ok Tryd.func48 b_kbstr_ok (by kernel_rfl) fun x=>M.le_trans (M.le_of_eq (l_kbstr x)) (sBStr x)
def b_kwrite:Code:=Tryd.f63.body.getD .skip
theorem b_kwrite_ok:Tryd.f63.body=some b_kwrite:=by kernel_rfl
def Psi_kwrite (k:Nat):Option KC:=if k=67 then some (.io ioc_ccheck) else none
theorem Psi_kwrite_ok:PsiOk Tryd.prog noU Psi_kwrite:=by
 intro k c h
 unfold Psi_kwrite at h
 split at h
 ·cases h;subst_vars;exact io_ccheck
 cases h
def ioc_write:IOC:=⟨⟨[(0,.loc 100001 0),(1,.val t55)],[(100001,.cells t84 [.nos 100001,.own 100002]),(100002,.arr t5)]⟩,⟨[(0,.val t3)],[(100001,.cells t84 [.nos 100001,.own 100002]),(100002,.arr t5)]⟩,[none,none],2,shWrite⟩
def ann_kwrite:Ann:=(.seq .leaf (.seq .leaf (.seq .leaf (.seq .leaf .leaf))))
theorem l_kwrite (x):funIO noU (tabT tab) noPhi Psi_kwrite Tryd.f63 b_kwrite ann_kwrite ⟨[(0,.loc 100001 0),(1,.val t55)],[(100001,.cells t84 [.nos 100001,.own 100002]),(100002,.arr t5)]⟩ ⟨[(0,.val t3)],[(100001,.cells t84 [.nos 100001,.own 100002]),(100002,.arr t5)]⟩ [none,none] x=S_io_write shCopyC x:=by kernel_rfl
theorem io_write:IoSpec Tryd.prog noU 63 ioc_write:=
 fnIO_ok mixOk tabOk noPhi_ok Psi_kwrite_ok Tryd.func63 b_kwrite_ok (by kernel_rfl) fun x=>M.le_trans (M.le_of_eq (l_kwrite x)) (sWrite x)
def b_kwbyte:Code:=Tryd.f64.body.getD .skip
theorem b_kwbyte_ok:Tryd.f64.body=some b_kwbyte:=by kernel_rfl
def Psi_kwbyte (k:Nat):Option KC:=if k=67 then some (.io ioc_ccheck) else none
theorem Psi_kwbyte_ok:PsiOk Tryd.prog noU Psi_kwbyte:=by
 intro k c h
 unfold Psi_kwbyte at h
 split at h
 ·cases h;subst_vars;exact io_ccheck
 cases h
def ioc_wbyte:IOC:=⟨⟨[(0,.loc 100001 0),(1,.val t5)],[(100001,.cells t84 [.nos 100001,.own 100002]),(100002,.arr t5)]⟩,⟨[],[(100001,.cells t84 [.nos 100001,.own 100002]),(100002,.arr t5)]⟩,[none],2,shWByte⟩
def ann_kwbyte:Ann:=(.seq .leaf (.seq .leaf (.seq .leaf (.seq .leaf .leaf))))
theorem l_kwbyte (x):funIO noU (tabT tab) noPhi Psi_kwbyte Tryd.f64 b_kwbyte ann_kwbyte ⟨[(0,.loc 100001 0),(1,.val t5)],[(100001,.cells t84 [.nos 100001,.own 100002]),(100002,.arr t5)]⟩ ⟨[],[(100001,.cells t84 [.nos 100001,.own 100002]),(100002,.arr t5)]⟩ [none] x=S_io_wbyte shCopyC x:=by kernel_rfl
theorem io_wbyte:IoSpec Tryd.prog noU 64 ioc_wbyte:=
 fnIO_ok mixOk tabOk noPhi_ok Psi_kwbyte_ok Tryd.func64 b_kwbyte_ok (by kernel_rfl) fun x=>M.le_trans (M.le_of_eq (l_kwbyte x)) (sWByte x)
def b_k42:Code:=Tryd.f42.body.getD .skip
theorem b_k42_ok:Tryd.f42.body=some b_k42:=by kernel_rfl
def Psi_k42 (k:Nat):Option KC:=if k=48 then some (.io ioc_bstr) else if k=63 then some (.io ioc_write) else if k=64 then some (.io ioc_wbyte) else none
theorem Psi_k42_ok:PsiOk Tryd.prog noU Psi_k42:=by
 intro k c h
 unfold Psi_k42 at h
 split at h
 ·cases h;subst_vars;exact io_bstr
 split at h
 ·cases h;subst_vars;exact io_write
 split at h
 ·cases h;subst_vars;exact io_wbyte
 cases h
def ann_k42:Ann:=(.seq .leaf (.join ⟨[(0,.val t63),(3,.loc 3 0)],[(3,.cells t84 [.nos 3,.own 30000]),(30000,.arr t5)]⟩ .leaf (.join ⟨[(3,.loc 3 0)],[(3,.cells t84 [.nos 3,.own 30000]),(30000,.arr t5)]⟩ (.seq .leaf (.block (.loop ⟨[(3,.loc 3 0),(6,.val t63),(7,.val t3),(8,.val t3)],[(3,.cells t84 [.nos 3,.own 30000]),(30000,.arr t5)]⟩ (.seq .leaf (.seq (.cond .leaf .leaf) (.seq (.block (.seq .leaf (.seq .leaf .leaf))) .leaf)))))) (.seq .leaf (.seq .leaf .leaf)))))
theorem l_k42 (x):funI noU (tabT tab) noPhi Psi_k42 Tryd.f42 b_k42 ann_k42 t63 t9 x=S_files_block_text shBStr shWrite shWByte x:=by kernel_rfl
theorem spec_k42:FnSpec Tryd.prog 42 t63 t9 fcText.sh:=
 fn_ok mixOk tabOk noU_ok noPhi_ok Psi_k42_ok Tryd.func42 b_k42_ok (by kernel_rfl) fun x=>M.le_trans (M.le_of_eq (l_k42 x)) (sText x)
def b_kchunk:Code:=Tryd.f66.body.getD .skip
theorem b_kchunk_ok:Tryd.f66.body=some b_kchunk:=by kernel_rfl
def Psi_kchunk (k:Nat):Option KC:=none
theorem Psi_kchunk_ok:PsiOk Tryd.prog noU Psi_kchunk:=by
 intro k c h
 unfold Psi_kchunk at h
 cases h
def ioc_chunk:IOC:=⟨⟨[(0,.yld),(1,.pp t22),(2,.pp t3),(1000000,.tr t22)],[]⟩,⟨[(1000000,.tr t22)],[]⟩,[],3,S_io_chunk⟩
def ann_kchunk:Ann:=(.seq .leaf (.block (.loop ⟨[(0,.yld),(1,.pp t22),(2,.pp t3),(4,.val t3),(1000000,.tr t22)],[]⟩ (.seq (.seq .leaf (.cond .leaf .leaf)) (.seq (.block (.seq .leaf (.seq .leaf (.cond .leaf .leaf)))) .leaf)))))
theorem l_kchunk (x):funIO noU (tabT tab) noPhi Psi_kchunk Tryd.f66 b_kchunk ann_kchunk ⟨[(0,.yld),(1,.pp t22),(2,.pp t3),(1000000,.tr t22)],[]⟩ ⟨[(1000000,.tr t22)],[]⟩ [] x=S_io_chunk  x:=by kernel_rfl
theorem io_chunk:IoSpec Tryd.prog noU 66 ioc_chunk:=
 fnIO_ok mixOk tabOk noPhi_ok Psi_kchunk_ok Tryd.func66 b_kchunk_ok (by kernel_rfl) fun x=>M.le_trans (M.le_of_eq (l_kchunk x)) (M.le_refl <| S_io_chunk x)
theorem cit_66:CItSpec Tryd.prog 66 ⟨[t22,t3],t22,chunkS⟩:=cit_of_io (c:=ioc_chunk) io_chunk noU_ok (fun x l L=>(l,x.1.getD [],x.2.getD 0,(l,L,[],false),())) rfl (by decide) (by simp [tupT])
 (fun x l L i hx=>by
  obtain ⟨T,hT⟩:=hx
  obtain ⟨s,hm,hs,_⟩:=hT
  subst hm
  by_cases h0:i=0
  ·subst h0;exact .inr (.inr (.inl ⟨rfl,rfl⟩))
  ·by_cases h1:i=1
   ·subst h1;exact .inr (.inl ⟨by decide,by decide,_,_,rfl,rfl⟩)
   by_cases h3:i=2
   ·subst h3;exact .inr (.inl ⟨by decide,by decide,_,_,rfl,rfl⟩)
   by_cases h2:i=TRS
   ·subst h2;exact .inr (.inr (.inr ⟨rfl,rfl⟩))
   ·refine .inl ?_
    exact (if_neg h0).trans ((if_neg h1).trans ((if_neg h3).trans (if_neg h2))))
 rfl (fun τ=>⟨_,_,_,_,rfl⟩) (fun x l hx=>by
  obtain ⟨T,hT⟩:=hx
  obtain ⟨s,hm,hs,_⟩:=hT
  subst hm
  have h:=sChunkIO l s hs
  refine ⟨h.1,fun τ hτ l' L' p hsl=>?_⟩
  have e:AV.tr τ.1.1 t22 τ.1.2.1 τ.1.2.2.1 τ.1.2.2.2=.tr l' t22 L' p false:=hsl
  injection e with e1 e2 e3 e4 e5
  rw [←e4]
  exact h.2 τ hτ e5)
def b_k45:Code:=Tryd.f45.body.getD .skip
theorem b_k45_ok:Tryd.f45.body=some b_k45:=by kernel_rfl
def U_k45:FnTab:={ fnv:=fun k=>none,clv:=fun k=>none,itv:=fun k=>if k=66 then some ⟨[t22,t3],t22,chunkS⟩ else none }
theorem U_k45_ok:FnTabOk Tryd.prog U_k45 where
 fnv:=by
  intro k v h
  simp only [U_k45] at h
  cases h
 clv:=by
  intro k v h
  simp only [U_k45] at h
  cases h
 itv:=by
  intro k v h
  simp only [U_k45] at h
  split at h
  ·cases h;subst_vars;exact cit_66
  cases h
def Psi_k45 (k:Nat):Option KC:=none
theorem Psi_k45_ok:PsiOk Tryd.prog U_k45 Psi_k45:=by
 intro k c h
 unfold Psi_k45 at h
 cases h
def ann_k45:Ann:=(.seq .leaf (.join ⟨[(2,.loc 2 0),(3,.loc 3 0)],[(2,.cells t22 [.val t22]),(3,.cells t3 [.val t3])]⟩ (.seq .leaf (.cond .leaf .leaf)) (.seq .leaf .leaf)))
theorem l_k45 (x):funI U_k45 (tabT tab) noPhi Psi_k45 Tryd.f45 b_k45 ann_k45 (.prod t22 t3) t86 x=S_slices_Chunk_string_string chunkS x:=by kernel_rfl
theorem spec_k45:FnSpec Tryd.prog 45 (.prod t22 t3) t86 fcChunk.sh:=
 fn_ok mixOk tabOk U_k45_ok noPhi_ok Psi_k45_ok Tryd.func45 b_k45_ok (by kernel_rfl) fun x=>M.le_trans (M.le_of_eq (l_k45 x)) (sChunk x)
def b_kwstr:Code:=Tryd.f46.body.getD .skip
theorem b_kwstr_ok:Tryd.f46.body=some b_kwstr:=by kernel_rfl
def Psi_kwstr (k:Nat):Option KC:=if k=67 then some (.io ioc_ccheck) else none
theorem Psi_kwstr_ok:PsiOk Tryd.prog noU Psi_kwstr:=by
 intro k c h
 unfold Psi_kwstr at h
 split at h
 ·cases h;subst_vars;exact io_ccheck
 cases h
def ioc_wstr:IOC:=⟨⟨[(0,.loc 100001 0),(1,.val t9)],[(100001,.cells t84 [.nos 100001,.own 100002]),(100002,.arr t5)]⟩,⟨[(0,.val t3)],[(100001,.cells t84 [.nos 100001,.own 100002]),(100002,.arr t5)]⟩,[none,none],2,shWStr⟩
def ann_kwstr:Ann:=(.seq .leaf (.seq .leaf (.seq .leaf (.seq .leaf .leaf))))
theorem l_kwstr (x):funIO noU (tabT tab) noPhi Psi_kwstr Tryd.f46 b_kwstr ann_kwstr ⟨[(0,.loc 100001 0),(1,.val t9)],[(100001,.cells t84 [.nos 100001,.own 100002]),(100002,.arr t5)]⟩ ⟨[(0,.val t3)],[(100001,.cells t84 [.nos 100001,.own 100002]),(100002,.arr t5)]⟩ [none,none] x=S_io_wstr shCopyC x:=by kernel_rfl
theorem io_wstr:IoSpec Tryd.prog noU 46 ioc_wstr:=
 fnIO_ok mixOk tabOk noPhi_ok Psi_kwstr_ok Tryd.func46 b_kwstr_ok (by kernel_rfl) fun x=>M.le_trans (M.le_of_eq (l_kwstr x)) (sWStr x)
def b_kadd:Code:=Tryd.f73.body.getD .skip
theorem b_kadd_ok:Tryd.f73.body=some b_kadd:=by kernel_rfl
def Psi_kadd (k:Nat):Option KC:=none
theorem Psi_kadd_ok:PsiOk Tryd.prog noU Psi_kadd:=by
 intro k c h
 unfold Psi_kadd at h
 cases h
def ioc_add:IOC:=⟨⟨[(0,.loc 100000 0),(1,.val t5)],[(100000,.cells t3 [.val t3])]⟩,⟨[],[(100000,.cells t3 [.val t3])]⟩,[],2,shAdd⟩
def ann_kadd:Ann:=.leaf
theorem l_kadd (x):funIO noU (tabT tab) noPhi Psi_kadd Tryd.f73 b_kadd ann_kadd ⟨[(0,.loc 100000 0),(1,.val t5)],[(100000,.cells t3 [.val t3])]⟩ ⟨[],[(100000,.cells t3 [.val t3])]⟩ [] x=S_io_add  x:=by kernel_rfl
theorem io_add:IoSpec Tryd.prog noU 73 ioc_add:=
 fnIO_ok mixOk tabOk noPhi_ok Psi_kadd_ok Tryd.func73 b_kadd_ok (by kernel_rfl) fun x=>M.le_trans (M.le_of_eq (l_kadd x)) (sAdd x)
def b_k68:Code:=Tryd.f68.body.getD .skip
theorem b_k68_ok:Tryd.f68.body=some b_k68:=by kernel_rfl
def Psi_k68 (k:Nat):Option KC:=none
theorem Psi_k68_ok:PsiOk Tryd.prog noU Psi_k68:=by
 intro k c h
 unfold Psi_k68 at h
 cases h
def ann_k68:Ann:=(.seq .leaf (.seq .leaf .leaf))
theorem l_k68 (x):funI noU (tabT tab) noPhi Psi_k68 Tryd.f68 b_k68 ann_k68 t3 t5 x=S_files_written  x:=by kernel_rfl
theorem spec_k68:FnSpec Tryd.prog 68 t3 t5 fcWrittenP.sh:=
 fn_ok mixOk tabOk noU_ok noPhi_ok Psi_k68_ok Tryd.func68 b_k68_ok (by kernel_rfl) fun x=>M.le_trans (M.le_of_eq (l_k68 x)) (sWrittenP x)
def b_k74:Code:=Tryd.f74.body.getD .skip
theorem b_k74_ok:Tryd.f74.body=some b_k74:=by kernel_rfl
def Psi_k74 (k:Nat):Option KC:=if k=68 then some (.sc ⟨t3,t5,fcWrittenP.sh,true⟩) else none
theorem Psi_k74_ok:PsiOk Tryd.prog noU Psi_k74:=by
 intro k c h
 unfold Psi_k74 at h
 split at h
 ·cases h;subst_vars;exact ⟨spec_k68,fun _ _=>M.det_det⟩
 cases h
def ann_k74:Ann:=(.seq .leaf (.seq .leaf .leaf))
theorem l_k74 (x):funI noU (tabT tab) noPhi Psi_k74 Tryd.f74 b_k74 ann_k74 t115 t5 x=S_files_sum_char fcWrittenP.sh x:=by kernel_rfl
theorem spec_k74:FnSpec Tryd.prog 74 t115 t5 fcWrittenP.sh:=
 fn_ok mixOk tabOk noU_ok noPhi_ok Psi_k74_ok Tryd.func74 b_k74_ok (by kernel_rfl) fun x=>M.le_trans (M.le_of_eq (l_k74 x)) (sChar x)
def b_k53:Code:=Tryd.f53.body.getD .skip
theorem b_k53_ok:Tryd.f53.body=some b_k53:=by kernel_rfl
def Psi_k53 (k:Nat):Option KC:=if k=73 then some (.io ioc_add) else if k=74 then some (.sc ⟨t115,t5,fcWrittenP.sh,true⟩) else none
theorem Psi_k53_ok:PsiOk Tryd.prog noU Psi_k53:=by
 intro k c h
 unfold Psi_k53 at h
 split at h
 ·cases h;subst_vars;exact io_add
 split at h
 ·cases h;subst_vars;exact ⟨spec_k74,fun _ _=>M.det_det⟩
 cases h
def ann_k53:Ann:=(.seq .leaf (.seq .leaf (.join ⟨[(3,.loc 3 0)],[(3,.cells t3 [.val t3])]⟩ (.seq .leaf (.block (.loop ⟨[(3,.loc 3 0),(6,.val t55),(7,.val t3),(8,.val t3)],[(3,.cells t3 [.val t3])]⟩ (.seq .leaf (.seq (.cond .leaf .leaf) (.seq (.block (.seq .leaf .leaf)) .leaf)))))) (.seq .leaf .leaf))))
theorem l_k53 (x):funI noU (tabT tab) noPhi Psi_k53 Tryd.f53 b_k53 ann_k53 t55 t5 x=S_files_check shAdd fcWrittenP.sh x:=by kernel_rfl
theorem spec_k53:FnSpec Tryd.prog 53 t55 t5 fcCheckP.sh:=
 fn_ok mixOk tabOk noU_ok noPhi_ok Psi_k53_ok Tryd.func53 b_k53_ok (by kernel_rfl) fun x=>M.le_trans (M.le_of_eq (l_k53 x)) (sCheckP x)
def b_kcolumn:Code:=Tryd.f54.body.getD .skip
theorem b_kcolumn_ok:Tryd.f54.body=some b_kcolumn:=by kernel_rfl
def Psi_kcolumn (k:Nat):Option KC:=none
theorem Psi_kcolumn_ok:PsiOk Tryd.prog noU Psi_kcolumn:=by
 intro k c h
 unfold Psi_kcolumn at h
 cases h
def ioc_column:IOC:=⟨⟨[(0,.own 200001),(1,.val t3),(2,.val t3)],[(200001,.arr t55)]⟩,⟨[(0,.own 7)],[(7,.arr t5),(200001,.arr t55)]⟩,[none],3,shColumn⟩
def ann_kcolumn:Ann:=(.seq .leaf (.seq .leaf (.join ⟨[(7,.own 7)],[(7,.arr t5),(200001,.arr t55)]⟩ (.seq .leaf (.block (.loop ⟨[(1,.val t3),(7,.own 7),(15,.sub 200001),(16,.val t3),(17,.val t3)],[(7,.arr t5),(200001,.arr t55)]⟩ (.seq .leaf (.seq (.cond .leaf .leaf) (.seq (.block (.seq .leaf .leaf)) .leaf)))))) (.seq .leaf .leaf))))
theorem l_kcolumn (x):funIO noU (tabT tab) noPhi Psi_kcolumn Tryd.f54 b_kcolumn ann_kcolumn ⟨[(0,.own 200001),(1,.val t3),(2,.val t3)],[(200001,.arr t55)]⟩ ⟨[(0,.own 7)],[(7,.arr t5),(200001,.arr t55)]⟩ [none] x=S_io_column  x:=by kernel_rfl
theorem io_column:IoSpec Tryd.prog noU 54 ioc_column:=
 fnIO_ok mixOk tabOk noPhi_ok Psi_kcolumn_ok Tryd.func54 b_kcolumn_ok (by kernel_rfl) fun x=>M.le_trans (M.le_of_eq (l_kcolumn x)) (sColumnIO x)
def b_k47:Code:=Tryd.f47.body.getD .skip
theorem b_k47_ok:Tryd.f47.body=some b_k47:=by kernel_rfl
def Psi_k47 (k:Nat):Option KC:=if k=53 then some (.sc ⟨t55,t5,fcCheckP.sh,true⟩) else if k=54 then some (.io ioc_column) else if k=68 then some (.sc ⟨t3,t5,fcWrittenP.sh,true⟩) else if k=69 then some (.sc ⟨(.prod t9 t3),t9,fcRep.sh,true⟩) else none
theorem Psi_k47_ok:PsiOk Tryd.prog noU Psi_k47:=by
 intro k c h
 unfold Psi_k47 at h
 split at h
 ·cases h;subst_vars;exact ⟨spec_k53,fun _ _=>M.det_det⟩
 split at h
 ·cases h;subst_vars;exact io_column
 split at h
 ·cases h;subst_vars;exact ⟨spec_k68,fun _ _=>M.det_det⟩
 split at h
 ·cases h;subst_vars;exact ⟨spec_k69,fun _ _=>M.det_det⟩
 cases h
def ann_k47:Ann:=(.seq .leaf (.seq .leaf (.seq .leaf (.join ⟨[(0,.val t22),(3,.own 3),(4,.val t3)],[(3,.arr t55)]⟩ (.seq .leaf (.block (.loop ⟨[(0,.val t22),(3,.own 3),(4,.val t3),(12,.val t22),(13,.val t3),(14,.val t3)],[(3,.arr t55)]⟩ (.seq .leaf (.seq (.cond .leaf .leaf) (.seq (.block (.seq .leaf .leaf)) .leaf)))))) (.join ⟨[(3,.own 3),(4,.val t3)],[(3,.arr t55)]⟩ (.seq .leaf (.block (.loop ⟨[(3,.own 3),(4,.val t3),(23,.val t22),(24,.val t3),(25,.val t3)],[(3,.arr t55)]⟩ (.seq .leaf (.seq (.cond .leaf .leaf) (.seq (.block (.seq .leaf (.seq .leaf .leaf))) .leaf)))))) (.seq .leaf (.join ⟨[(3,.own 3),(10,.own 10)],[(3,.arr t55),(10,.arr t5)]⟩ (.seq .leaf (.block (.loop ⟨[(3,.own 3),(10,.own 10),(51,.val t3),(52,.val t3)],[(3,.arr t55),(10,.arr t5)]⟩ (.seq .leaf (.seq (.cond .leaf .leaf) (.seq (.block (.seq .leaf .leaf)) .leaf)))))) (.seq .leaf .leaf))))))))
theorem l_k47 (x):funI noU (tabT tab) noPhi Psi_k47 Tryd.f47 b_k47 ann_k47 t22 t63 x=S_files_makeBlock fcCheckP.sh shColumn fcWrittenP.sh fcRep.sh x:=by kernel_rfl
theorem spec_k47:FnSpec Tryd.prog 47 t22 t63 fcMakeBlock.sh:=
 fn_ok mixOk tabOk noU_ok noPhi_ok Psi_k47_ok Tryd.func47 b_k47_ok (by kernel_rfl) fun x=>M.le_trans (M.le_of_eq (l_k47 x)) (sMakeBlock x)
def b_k30:Code:=Tryd.f30.body.getD .skip
theorem b_k30_ok:Tryd.f30.body=some b_k30:=by kernel_rfl
def Psi_k30 (k:Nat):Option KC:=if k=42 then some (.sc ⟨t63,t9,fcText.sh,true⟩) else if k=45 then some (.sc ⟨(.prod t22 t3),t86,fcChunk.sh,true⟩) else if k=46 then some (.io ioc_wstr) else if k=47 then some (.sc ⟨t22,t63,fcMakeBlock.sh,true⟩) else if k=48 then some (.io ioc_bstr) else none
theorem Psi_k30_ok:PsiOk Tryd.prog noU Psi_k30:=by
 intro k c h
 unfold Psi_k30 at h
 split at h
 ·cases h;subst_vars;exact ⟨spec_k42,fun _ _=>M.det_det⟩
 split at h
 ·cases h;subst_vars;exact ⟨spec_k45,fun _ _=>M.det_det⟩
 split at h
 ·cases h;subst_vars;exact io_wstr
 split at h
 ·cases h;subst_vars;exact ⟨spec_k47,fun _ _=>M.det_det⟩
 split at h
 ·cases h;subst_vars;exact io_bstr
 cases h
def ann_k30:Ann:=(.seq .leaf (.join ⟨[(0,.val t22),(3,.loc 3 0)],[(3,.cells t84 [.nos 3,.own 30000]),(30000,.arr t5)]⟩ .leaf (.seq (.seq .leaf (.block (.range ⟨[(3,.loc 3 0)],[(3,.cells t84 [.nos 3,.own 30000]),(30000,.arr t5)]⟩ ⟨[(3,.loc 100003 0),(7,.val t22)],[(100003,.cells t84 [.nos 100003,.own 130000]),(130000,.arr t5)]⟩ ⟨[],[(100003,.cells t84 [.nos 100003,.own 130000]),(130000,.arr t5)]⟩ .leaf (.block .leaf)))) (.seq .leaf .leaf))))
theorem l_k30 (x):funI noU (tabT tab) noPhi Psi_k30 Tryd.f30 b_k30 ann_k30 t22 t9 x=S_files_file fcText.sh fcChunk.sh shWStr fcMakeBlock.sh shBStr x:=by kernel_rfl
theorem spec_k30:FnSpec Tryd.prog 30 t22 t9 fcFile.sh:=
 fn_ok mixOk tabOk noU_ok noPhi_ok Psi_k30_ok Tryd.func30 b_k30_ok (by kernel_rfl) fun x=>M.le_trans (M.le_of_eq (l_k30 x)) (sFile x)
def b_k12:Code:=Tryd.f12.body.getD .skip
theorem b_k12_ok:Tryd.f12.body=some b_k12:=by kernel_rfl
def U_k12:FnTab:={ fnv:=fun k=>if k=28 then some ⟨t9,t4,fcBadT.sh⟩ else none,clv:=fun k=>none }
theorem U_k12_ok:FnTabOk Tryd.prog U_k12 where
 fnv:=by
  intro k v h
  simp only [U_k12] at h
  split at h
  ·cases h;subst_vars;exact spec_k28
  cases h
 clv:=by
  intro k v h
  simp only [U_k12] at h
  cases h
def Psi_k12 (k:Nat):Option KC:=if k=27 then some (.sc ⟨(.prod t22 t44),t4,(fcContainsFunc .str).sh,true⟩) else if k=30 then some (.sc ⟨t22,t9,fcFile.sh,true⟩) else none
theorem Psi_k12_ok:PsiOk Tryd.prog U_k12 Psi_k12:=by
 intro k c h
 unfold Psi_k12 at h
 split at h
 ·cases h;subst_vars;exact ⟨spec_k27,fun _ _=>M.det_det⟩
 split at h
 ·cases h;subst_vars;exact ⟨spec_k30,fun _ _=>M.det_det⟩
 cases h
def ann_k12:Ann:=(.seq .leaf (.seq (.seq .leaf (.cond (.seq .leaf .leaf) .leaf)) (.seq (.seq .leaf (.cond (.seq .leaf .leaf) .leaf)) (.seq .leaf .leaf))))
theorem l_k12 (x):funI U_k12 (tabT tab) noPhi Psi_k12 Tryd.f12 b_k12 ann_k12 t22 (.prod t9 t26) x=S_files_Write (fcContainsFunc .str).sh fcFile.sh fcBadT.sh x:=by kernel_rfl
theorem spec_k12:FnSpec Tryd.prog 12 t22 (.prod t9 t26) fcWriteP.sh:=
 fn_ok mixOk tabOk U_k12_ok noPhi_ok Psi_k12_ok Tryd.func12 b_k12_ok (by kernel_rfl) fun x=>M.le_trans (M.le_of_eq (l_k12 x)) (sWriteP x)
def b_k51:Code:=Tryd.f51.body.getD .skip
theorem b_k51_ok:Tryd.f51.body=some b_k51:=by kernel_rfl
def Psi_k51 (k:Nat):Option KC:=if k=29 then some (.sc ⟨t9,t4,fcIsT.sh,true⟩) else none
theorem Psi_k51_ok:PsiOk Tryd.prog noU Psi_k51:=by
 intro k c h
 unfold Psi_k51 at h
 split at h
 ·cases h;subst_vars;exact ⟨spec_k29,fun _ _=>M.det_det⟩
 cases h
def ann_k51:Ann:=(.seq .leaf (.seq .leaf .leaf))
theorem l_k51 (x):codeI noU (tabT tab) noPhi Psi_k51 ann_k51 b_k51 (capsSt 1 (parSt (.prod t55 (.ptr t3)) x)) (retI (tabT tab) Tryd.f51.results.toList t4)=S_files_cut_c1 fcIsT.sh x:=by kernel_rfl
theorem spec_k51:FnSpec Tryd.prog 51 (.prod t55 (.ptr t3)) t4 fcOdd.sh:=
 fnC_ok (n:=1) mixOk tabOk noU_ok noPhi_ok Psi_k51_ok Tryd.func51 b_k51_ok (by kernel_rfl) fun x=>M.le_req (fun h=>by obtain ⟨w,hw⟩:=h;exact caps_pre ⟨trivial,isSome_of hw⟩) (M.le_trans (M.le_of_eq (l_k51 x)) (sOdd x))
def b_k72:Code:=Tryd.f72.body.getD .skip
theorem b_k72_ok:Tryd.f72.body=some b_k72:=by kernel_rfl
def Psi_k72 (k:Nat):Option KC:=none
theorem Psi_k72_ok:PsiOk Tryd.prog noU Psi_k72:=by
 intro k c h
 unfold Psi_k72 at h
 cases h
def ann_k72:Ann:=(.seq .leaf (.join ⟨[],[]⟩ (.seq .leaf (.block (.loop ⟨[(0,.val t63),(1,.val t96),(7,.val t3),(8,.val t3)],[]⟩ (.seq .leaf (.seq (.cond .leaf .leaf) (.seq (.block (.seq .leaf (.seq .leaf (.cond (.seq .leaf .leaf) .leaf)))) .leaf)))))) (.seq .leaf .leaf)))
theorem l_k72 (x):funI noU (tabT tab) noPhi Psi_k72 Tryd.f72 b_k72 ann_k72 (.prod t63 t96) t3 x=S_slices_IndexFunc_files_block_byte  x:=by kernel_rfl
theorem spec_k72:FnSpec Tryd.prog 72 (.prod t63 t96) t3 (fcIndexFunc (.slice (.int .u8))).sh:=
 fn_ok mixOk tabOk noU_ok noPhi_ok Psi_k72_ok Tryd.func72 b_k72_ok (by kernel_rfl) fun x=>M.le_trans (M.le_of_eq (l_k72 x)) (sIndexFuncB x)
def b_k52:Code:=Tryd.f52.body.getD .skip
theorem b_k52_ok:Tryd.f52.body=some b_k52:=by kernel_rfl
def Psi_k52 (k:Nat):Option KC:=if k=72 then some (.sc ⟨(.prod t63 t96),t3,(fcIndexFunc (.slice (.int .u8))).sh,true⟩) else none
theorem Psi_k52_ok:PsiOk Tryd.prog noU Psi_k52:=by
 intro k c h
 unfold Psi_k52 at h
 split at h
 ·cases h;subst_vars;exact ⟨spec_k72,fun _ _=>M.det_det⟩
 cases h
def ann_k52:Ann:=(.seq .leaf (.seq .leaf .leaf))
theorem l_k52 (x):funI noU (tabT tab) noPhi Psi_k52 Tryd.f52 b_k52 ann_k52 (.prod t63 t96) t4 x=S_slices_ContainsFunc_files_block_byte (fcIndexFunc (.slice (.int .u8))).sh x:=by kernel_rfl
theorem spec_k52:FnSpec Tryd.prog 52 (.prod t63 t96) t4 (fcContainsFunc (.slice (.int .u8))).sh:=
 fn_ok mixOk tabOk noU_ok noPhi_ok Psi_k52_ok Tryd.func52 b_k52_ok (by kernel_rfl) fun x=>M.le_trans (M.le_of_eq (l_k52 x)) (sContainsFuncB x)
def b_k65:Code:=Tryd.f65.body.getD .skip
theorem b_k65_ok:Tryd.f65.body=some b_k65:=by kernel_rfl
def Psi_k65 (k:Nat):Option KC:=none
theorem Psi_k65_ok:PsiOk Tryd.prog noU Psi_k65:=by
 intro k c h
 unfold Psi_k65 at h
 cases h
def ann_k65:Ann:=(.seq .leaf (.seq .leaf (.join ⟨[(3,.own 3)],[(3,.arr t9)]⟩ (.seq .leaf (.block (.loop ⟨[(3,.own 3),(11,.val t63),(12,.val t3),(13,.val t3)],[(3,.arr t9)]⟩ (.seq .leaf (.seq (.cond .leaf .leaf) (.seq (.block (.seq .leaf (.seq .leaf .leaf))) .leaf)))))) (.seq .leaf .leaf))))
theorem l_k65 (x):funI noU (tabT tab) noPhi Psi_k65 Tryd.f65 b_k65 ann_k65 t63 t22 x=S_files_block_texts  x:=by kernel_rfl
theorem spec_k65:FnSpec Tryd.prog 65 t63 t22 fcTexts.sh:=
 fn_ok mixOk tabOk noU_ok noPhi_ok Psi_k65_ok Tryd.func65 b_k65_ok (by kernel_rfl) fun x=>M.le_trans (M.le_of_eq (l_k65 x)) (sTextsP x)
def b_k43:Code:=Tryd.f43.body.getD .skip
theorem b_k43_ok:Tryd.f43.body=some b_k43:=by kernel_rfl
def Psi_k43 (k:Nat):Option KC:=if k=12 then some (.sc ⟨t22,(.prod t9 t26),fcWriteP.sh,true⟩) else if k=42 then some (.sc ⟨t63,t9,fcText.sh,true⟩) else if k=46 then some (.io ioc_wstr) else if k=48 then some (.io ioc_bstr) else if k=65 then some (.sc ⟨t63,t22,fcTexts.sh,true⟩) else none
theorem Psi_k43_ok:PsiOk Tryd.prog noU Psi_k43:=by
 intro k c h
 unfold Psi_k43 at h
 split at h
 ·cases h;subst_vars;exact ⟨spec_k12,fun _ _=>M.det_det⟩
 split at h
 ·cases h;subst_vars;exact ⟨spec_k42,fun _ _=>M.det_det⟩
 split at h
 ·cases h;subst_vars;exact io_wstr
 split at h
 ·cases h;subst_vars;exact io_bstr
 split at h
 ·cases h;subst_vars;exact ⟨spec_k65,fun _ _=>M.det_det⟩
 cases h
def ann_k43:Ann:=(.seq .leaf (.seq .leaf (.join ⟨[(0,.val t59),(4,.own 4),(5,.loc 5 0)],[(4,.arr t9),(5,.cells t84 [.nos 5,.own 30000]),(30000,.arr t5)]⟩ .leaf (.join ⟨[(4,.own 4),(5,.loc 5 0)],[(4,.arr t9),(5,.cells t84 [.nos 5,.own 30000]),(30000,.arr t5)]⟩ (.seq .leaf (.block (.loop ⟨[(4,.own 4),(5,.loc 5 0),(10,.val t59),(11,.val t3),(12,.val t3)],[(4,.arr t9),(5,.cells t84 [.nos 5,.own 30000]),(30000,.arr t5)]⟩ (.seq .leaf (.seq (.cond .leaf .leaf) (.seq (.block (.seq .leaf (.seq .leaf .leaf))) .leaf)))))) (.seq .leaf (.seq .leaf .leaf))))))
theorem l_k43 (x):funI noU (tabT tab) noPhi Psi_k43 Tryd.f43 b_k43 ann_k43 t59 (.prod t22 t4) x=S_files_unpack fcWriteP.sh fcText.sh shWStr shBStr fcTexts.sh x:=by kernel_rfl
theorem spec_k43:FnSpec Tryd.prog 43 t59 (.prod t22 t4) fcUnpack.sh:=
 fn_ok mixOk tabOk noU_ok noPhi_ok Psi_k43_ok Tryd.func43 b_k43_ok (by kernel_rfl) fun x=>M.le_trans (M.le_of_eq (l_k43 x)) (sUnpack x)
def b_k54:Code:=Tryd.f54.body.getD .skip
theorem b_k54_ok:Tryd.f54.body=some b_k54:=by kernel_rfl
def Psi_k54 (k:Nat):Option KC:=none
theorem Psi_k54_ok:PsiOk Tryd.prog noU Psi_k54:=by
 intro k c h
 unfold Psi_k54 at h
 cases h
def ann_k54:Ann:=(.seq .leaf (.seq .leaf (.join ⟨[(7,.own 7)],[(7,.arr t5)]⟩ (.seq .leaf (.block (.loop ⟨[(1,.val t3),(7,.own 7),(15,.val t63),(16,.val t3),(17,.val t3)],[(7,.arr t5)]⟩ (.seq .leaf (.seq (.cond .leaf .leaf) (.seq (.block (.seq .leaf .leaf)) .leaf)))))) (.seq .leaf .leaf))))
theorem l_k54 (x):funI noU (tabT tab) noPhi Psi_k54 Tryd.f54 b_k54 ann_k54 (.prod t63 (.prod t3 t3)) t55 x=S_files_block_column  x:=by kernel_rfl
theorem spec_k54:FnSpec Tryd.prog 54 (.prod t63 (.prod t3 t3)) t55 fcColumn.sh:=
 fn_ok mixOk tabOk noU_ok noPhi_ok Psi_k54_ok Tryd.func54 b_k54_ok (by kernel_rfl) fun x=>M.le_trans (M.le_of_eq (l_k54 x)) (sColumn x)
def b_kcolf:Code:=Tryd.f54.body.getD .skip
theorem b_kcolf_ok:Tryd.f54.body=some b_kcolf:=by kernel_rfl
def Psi_kcolf (k:Nat):Option KC:=none
theorem Psi_kcolf_ok:PsiOk Tryd.prog noU Psi_kcolf:=by
 intro k c h
 unfold Psi_kcolf at h
 cases h
def ioc_colf:IOC:=⟨⟨[(0,.val t63),(1,.val t3),(2,.val t3)],[]⟩,⟨[(0,.own 7)],[(7,.arr t5)]⟩,[none],3,shColF⟩
def ann_kcolf:Ann:=(.seq .leaf (.seq .leaf (.join ⟨[(7,.own 7)],[(7,.arr t5)]⟩ (.seq .leaf (.block (.loop ⟨[(1,.val t3),(7,.own 7),(15,.val t63),(16,.val t3),(17,.val t3)],[(7,.arr t5)]⟩ (.seq .leaf (.seq (.cond .leaf .leaf) (.seq (.block (.seq .leaf .leaf)) .leaf)))))) (.seq .leaf .leaf))))
theorem l_kcolf (x):funIO noU (tabT tab) noPhi Psi_kcolf Tryd.f54 b_kcolf ann_kcolf ⟨[(0,.val t63),(1,.val t3),(2,.val t3)],[]⟩ ⟨[(0,.own 7)],[(7,.arr t5)]⟩ [none] x=S_io_colf  x:=by kernel_rfl
theorem io_colf:IoSpec Tryd.prog noU 54 ioc_colf:=
 fnIO_ok mixOk tabOk noPhi_ok Psi_kcolf_ok Tryd.func54 b_kcolf_ok (by kernel_rfl) fun x=>M.le_trans (M.le_of_eq (l_kcolf x)) (sColF x)
theorem colf_fresh:FreshSpec Tryd.prog 54 (.prod t63 (.prod t3 t3)) t55 fcColumn.sh:=(fresh_of_io (ts:=.prod t63 (.prod t3 t3)) (e:=t5) (by decide) rfl io_colf noU_ok (b0:=7) (fun x=>(x.1,x.2.1,x.2.2,())) (fun x=>rfl) rfl (by decide) rfl (fun τ=>τ.1) (fun τ=>⟨rfl,rfl⟩) (fun x h=>⟨h,fun τ ht=>congrArg (fun z=>z.1) ht⟩)).2
def U_raw:FnTab:={ fnv:=fun _=>none,clv:=fun k=>if k=51 then some ⟨[t55],[t3],t4,fcOdd.sh⟩ else none,pcs:=fun k=>if k=42 then some ⟨(.slice t55r),t5,t9,fcText.pre,fcText.g,false⟩ else if k=43 then some ⟨(.slice (.slice t55r)),t5,(.prod t22 t4),fcUnpack.pre,fcUnpack.g,false⟩ else if k=52 then some ⟨(.prod (.slice t55r) t96),t5,t4,(fcContainsFunc (.slice (.int .u8))).pre,(fcContainsFunc (.slice (.int .u8))).g,false⟩ else if k=53 then some ⟨t55r,t5,t5,fcCheckP.pre,fcCheckP.g,false⟩ else if k=54 then some ⟨(.prod (.slice t55r) (.prod t3 t3)),t5,t55,fcColumn.pre,fcColumn.g,true⟩ else none }
theorem U_raw_ok:FnTabOk Tryd.prog U_raw where
 fnv:=by
  intro k v h
  cases h
 clv:=by
  intro k v h
  simp only [U_raw] at h
  split at h
  ·cases h;subst_vars;exact ⟨rfl,spec_k51⟩
  cases h
 pcs:=by
  intro k v h
  simp only [U_raw] at h
  split at h
  ·cases h;subst_vars;exact ⟨spec_k42,fun h=>by cases h⟩
  split at h
  ·cases h;subst_vars;exact ⟨spec_k43,fun h=>by cases h⟩
  split at h
  ·cases h;subst_vars;exact ⟨spec_k52,fun h=>by cases h⟩
  split at h
  ·cases h;subst_vars;exact ⟨spec_k53,fun h=>by cases h⟩
  split at h
  ·cases h;subst_vars;exact ⟨spec_k54,fun _=>colf_fresh⟩
  cases h
def b_kcut:Code:=Tryd.f33.body.getD .skip
theorem b_kcut_ok:Tryd.f33.body=some b_kcut:=by kernel_rfl
def Psi_kcut (k:Nat):Option KC:=if k=49 then some (.sc ⟨(.prod t9 t9),(.prod t9 (.prod t9 t4)),fcCutP.sh,true⟩) else if k=50 then some (.sc ⟨(.prod t9 t9),t22,fcSplitP.sh,true⟩) else none
theorem Psi_kcut_ok:PsiOk Tryd.prog U_raw Psi_kcut:=by
 intro k c h
 unfold Psi_kcut at h
 split at h
 ·cases h;subst_vars;exact ⟨spec_k49,fun _ _=>M.det_det⟩
 split at h
 ·cases h;subst_vars;exact ⟨spec_k50,fun _ _=>M.det_det⟩
 cases h
def ioc_cut:IOC:=⟨⟨[(0,.val t9)],[(150000,.pool t5)]⟩,⟨[(0,.own 50140),(1,.val t4)],[(50140,.arr t63r),(150000,.pool t5)]⟩,[none,none],1,shCut⟩
def ann_kcut:Ann:=(.seq .leaf (.seq .leaf (.join ⟨[(4,.own 4)],[(4,.arr t63r),(150000,.pool t5)]⟩ (.block (.loop ⟨[(0,.val t9),(4,.own 4)],[(4,.arr t63r),(150000,.pool t5)]⟩ (.seq (.seq .leaf (.cond .leaf .leaf)) (.block (.seq .leaf (.seq (.seq .leaf (.cond (.seq .leaf .leaf) .leaf)) (.seq .leaf (.join ⟨[(4,.own 4),(6,.val t9),(8,.own 8)],[(4,.arr t63r),(8,.arr t55r),(150000,.pool t5)]⟩ (.seq .leaf (.block (.loop ⟨[(4,.own 4),(6,.val t9),(8,.own 8),(24,.val t22),(25,.val t3),(26,.val t3)],[(4,.arr t63r),(8,.arr t55r),(150000,.pool t5)]⟩ (.seq .leaf (.seq (.cond .leaf .leaf) (.seq (.block (.seq .leaf .leaf)) .leaf)))))) (.seq .leaf (.seq .leaf (.seq (.seq .leaf (.cond (.seq .leaf .leaf) .leaf)) .leaf))))))))))) (.seq .leaf .leaf))))
theorem l_kcut (x):funIO U_raw (tabT tabR) noPhi Psi_kcut Tryd.f33 b_kcut ann_kcut ⟨[(0,.val t9)],[(150000,.pool t5)]⟩ ⟨[(0,.own 50140),(1,.val t4)],[(50140,.arr t63r),(150000,.pool t5)]⟩ [none,none] x=S_io_cut fcCutP.sh fcSplitP.sh (fcContainsFunc (.slice (.int .u8))).pre (fcContainsFunc (.slice (.int .u8))).g fcOdd.sh x:=by kernel_rfl
theorem io_cut:IoSpec Tryd.prog U_raw 33 ioc_cut:=
 fnIO_ok mixOk tabROk noPhi_ok Psi_kcut_ok Tryd.func33 b_kcut_ok (by kernel_rfl) fun x=>M.le_trans (M.le_of_eq (l_kcut x)) (sCut x)
def b_kl57:Code:=Tryd.f57.body.getD .skip
theorem b_kl57_ok:Tryd.f57.body=some b_kl57:=by kernel_rfl
def Psi_kl57 (k:Nat):Option KC:=none
theorem Psi_kl57_ok:PsiOk Tryd.prog U_raw Psi_kl57:=by
 intro k c h
 unfold Psi_kl57 at h
 cases h
def ioc_l57:IOC:=⟨⟨[(0,.val t5),(1,.loc 100011 0),(2,.loc 100010 0)],[(100010,.whole t66),(100011,.cells t55r [.val t55r]),(150000,.pool t5)]⟩,⟨[(0,.val t4)],[(100010,.whole t66),(100011,.cells t55r [.val t55r]),(150000,.pool t5)]⟩,[none],3,shL57⟩
def ann_kl57:Ann:=(.seq .leaf (.seq .leaf (.seq .leaf (.seq .leaf .leaf))))
theorem l_kl57 (x):funIO U_raw (tabT tabR) noPhi Psi_kl57 Tryd.f57 b_kl57 ann_kl57 ⟨[(0,.val t5),(1,.loc 100011 0),(2,.loc 100010 0)],[(100010,.whole t66),(100011,.cells t55r [.val t55r]),(150000,.pool t5)]⟩ ⟨[(0,.val t4)],[(100010,.whole t66),(100011,.cells t55r [.val t55r]),(150000,.pool t5)]⟩ [none] x=S_io_l57 fcCheckP.pre fcCheckP.g x:=by kernel_rfl
theorem io_l57:IoSpec Tryd.prog U_raw 57 ioc_l57:=
 fnIO_ok mixOk tabROk noPhi_ok Psi_kl57_ok Tryd.func57 b_kl57_ok (by kernel_rfl) fun x=>M.le_trans (M.le_of_eq (l_kl57 x)) (sL57 x)
def b_kidxf:Code:=Tryd.f75.body.getD .skip
theorem b_kidxf_ok:Tryd.f75.body=some b_kidxf:=by kernel_rfl
def Psi_kidxf (k:Nat):Option KC:=if k=57 then some (.io ioc_l57) else none
theorem Psi_kidxf_ok:PsiOk Tryd.prog U_raw Psi_kidxf:=by
 intro k c h
 unfold Psi_kidxf at h
 split at h
 ·cases h;subst_vars;exact io_l57
 cases h
def ioc_idxf:IOC:=⟨⟨[(0,.val t55),(1,.clo 57 [(100011,0),(100010,0)])],[(100010,.whole t66),(100011,.cells t55r [.val t55r]),(150000,.pool t5)]⟩,⟨[(0,.val t3)],[(100010,.whole t66),(100011,.cells t55r [.val t55r]),(150000,.pool t5)]⟩,[none],2,shIdxf⟩
def ann_kidxf:Ann:=(.seq .leaf (.join ⟨[],[(100010,.whole t41),(100011,.cells t55r [.val t55r]),(150000,.pool t5)]⟩ (.seq .leaf (.block (.loop ⟨[(0,.val t55),(1,.clo 57 [(100011,0),(100010,0)]),(7,.val t3),(8,.val t3)],[(100010,.whole t41),(100011,.cells t55r [.val t55r]),(150000,.pool t5)]⟩ (.seq .leaf (.seq (.cond .leaf .leaf) (.seq (.block (.seq .leaf (.seq .leaf (.cond (.seq .leaf .leaf) .leaf)))) .leaf)))))) (.seq .leaf .leaf)))
theorem l_kidxf (x):funIO U_raw (tabT tab) noPhi Psi_kidxf Tryd.f75 b_kidxf ann_kidxf ⟨[(0,.val t55),(1,.clo 57 [(100011,0),(100010,0)])],[(100010,.whole t66),(100011,.cells t55r [.val t55r]),(150000,.pool t5)]⟩ ⟨[(0,.val t3)],[(100010,.whole t66),(100011,.cells t55r [.val t55r]),(150000,.pool t5)]⟩ [none] x=S_io_idxf shL57 x:=by kernel_rfl
theorem io_idxf:IoSpec Tryd.prog U_raw 75 ioc_idxf:=
 fnIO_ok mixOk tabOk noPhi_ok Psi_kidxf_ok Tryd.func75 b_kidxf_ok (by kernel_rfl) fun x=>M.le_trans (M.le_of_eq (l_kidxf x)) (sIdxf x)
def b_kcf:Code:=Tryd.f55.body.getD .skip
theorem b_kcf_ok:Tryd.f55.body=some b_kcf:=by kernel_rfl
def Psi_kcf (k:Nat):Option KC:=if k=75 then some (.io ioc_idxf) else none
theorem Psi_kcf_ok:PsiOk Tryd.prog U_raw Psi_kcf:=by
 intro k c h
 unfold Psi_kcf at h
 split at h
 ·cases h;subst_vars;exact io_idxf
 cases h
def ioc_cf:IOC:=⟨⟨[(0,.val t55),(1,.clo 57 [(100011,0),(100010,0)])],[(100010,.whole t66),(100011,.cells t55r [.val t55r]),(150000,.pool t5)]⟩,⟨[(0,.val t4)],[(100010,.whole t66),(100011,.cells t55r [.val t55r]),(150000,.pool t5)]⟩,[none],2,shCf⟩
def ann_kcf:Ann:=(.seq .leaf (.seq .leaf .leaf))
theorem l_kcf (x):funIO U_raw (tabT tab) noPhi Psi_kcf Tryd.f55 b_kcf ann_kcf ⟨[(0,.val t55),(1,.clo 57 [(100011,0),(100010,0)])],[(100010,.whole t66),(100011,.cells t55r [.val t55r]),(150000,.pool t5)]⟩ ⟨[(0,.val t4)],[(100010,.whole t66),(100011,.cells t55r [.val t55r]),(150000,.pool t5)]⟩ [none] x=S_io_cf shIdxf x:=by kernel_rfl
theorem io_cf:IoSpec Tryd.prog U_raw 55 ioc_cf:=
 fnIO_ok mixOk tabOk noPhi_ok Psi_kcf_ok Tryd.func55 b_kcf_ok (by kernel_rfl) fun x=>M.le_trans (M.le_of_eq (l_kcf x)) (sCf x)
def b_k56:Code:=Tryd.f56.body.getD .skip
theorem b_k56_ok:Tryd.f56.body=some b_k56:=by kernel_rfl
def Psi_k56 (k:Nat):Option KC:=none
theorem Psi_k56_ok:PsiOk Tryd.prog noU Psi_k56:=by
 intro k c h
 unfold Psi_k56 at h
 cases h
def ann_k56:Ann:=(.seq .leaf (.seq .leaf (.join ⟨[(1,.own 1)],[(1,.arr t5)]⟩ (.seq .leaf (.block (.loop ⟨[(1,.own 1),(2,.val t5)],[(1,.arr t5)]⟩ (.seq (.seq .leaf (.cond .leaf .leaf)) (.seq (.block .leaf) .leaf))))) (.seq .leaf .leaf))))
theorem l_k56 (x):funI noU (tabT tab) noPhi Psi_k56 Tryd.f56 b_k56 ann_k56 .unit t55 x=S_files_printable  x:=by kernel_rfl
theorem spec_k56:FnSpec Tryd.prog 56 .unit t55 fcPrintable.sh:=
 fn_ok mixOk tabOk noU_ok noPhi_ok Psi_k56_ok Tryd.func56 b_k56_ok (by kernel_rfl) fun x=>M.le_trans (M.le_of_eq (l_k56 x)) (sPrintable x)
def b_klook:Code:=Tryd.f34.body.getD .skip
theorem b_klook_ok:Tryd.f34.body=some b_klook:=by kernel_rfl
def Psi_klook (k:Nat):Option KC:=if k=55 then some (.io ioc_cf) else if k=56 then some (.sc ⟨.unit,t55,fcPrintable.sh,true⟩) else none
theorem Psi_klook_ok:PsiOk Tryd.prog U_raw Psi_klook:=by
 intro k c h
 unfold Psi_klook at h
 split at h
 ·cases h;subst_vars;exact io_cf
 split at h
 ·cases h;subst_vars;exact ⟨spec_k56,fun _ _=>M.det_det⟩
 cases h
def ioc_look:IOC:=⟨⟨[(0,.val t63r)],[(150000,.pool t5)]⟩,⟨[(0,.val t64),(1,.val t66)],[(150000,.pool t5)]⟩,[none,none],1,shLook⟩
def ann_klook:Ann:=(.seq .leaf (.seq .leaf (.join ⟨[(0,.val t63r),(3,.loc 3 0),(4,.own 4),(5,.own 5)],[(3,.whole t41),(4,.arr t3),(5,.arr t3),(150000,.pool t5)]⟩ (.seq .leaf (.block (.loop ⟨[(0,.val t63r),(3,.loc 3 0),(4,.own 4),(5,.own 5),(13,.val t63r),(14,.val t3),(15,.val t3)],[(3,.whole t41),(4,.arr t3),(5,.arr t3),(150000,.pool t5)]⟩ (.seq .leaf (.seq (.cond .leaf .leaf) (.join ⟨[(0,.val t63r),(3,.loc 3 0),(4,.own 4),(5,.own 5),(13,.val t63r),(14,.val t3),(15,.val t3)],[(3,.whole t41),(4,.arr t3),(5,.arr t3),(150000,.pool t5)]⟩ (.block (.seq .leaf (.seq .leaf (.seq .leaf (.cond .leaf .leaf))))) .leaf)))))) (.join ⟨[(0,.val t63r),(3,.loc 3 0),(4,.own 4),(5,.own 5)],[(3,.whole t41),(4,.arr t3),(5,.arr t3),(150000,.pool t5)]⟩ (.seq .leaf (.block (.loop ⟨[(0,.val t63r),(3,.loc 3 0),(4,.own 4),(5,.own 5),(40,.val t3),(41,.val t3)],[(3,.whole t41),(4,.arr t3),(5,.arr t3),(150000,.pool t5)]⟩ (.seq .leaf (.seq (.cond .leaf .leaf) (.join ⟨[(0,.val t63r),(3,.loc 3 0),(4,.own 4),(5,.own 5),(40,.val t3),(41,.val t3)],[(3,.whole t41),(4,.arr t3),(5,.arr t3),(150000,.pool t5)]⟩ (.block (.seq .leaf (.seq .leaf (.cond .leaf .leaf)))) .leaf)))))) (.seq (.seq .leaf (.cond (.seq .leaf .leaf) .leaf)) (.seq (.seq .leaf (.cond (.seq .leaf .leaf) .leaf)) (.seq .leaf (.seq .leaf (.seq .leaf (.seq (.seq .leaf (.cond (.seq .leaf (.seq .leaf .leaf)) .leaf)) (.seq .leaf .leaf)))))))))))
theorem l_klook (x):funIO U_raw (tabT tabR) noPhi Psi_klook Tryd.f34 b_klook ann_klook ⟨[(0,.val t63r)],[(150000,.pool t5)]⟩ ⟨[(0,.val t64),(1,.val t66)],[(150000,.pool t5)]⟩ [none,none] x=S_io_look fcCheckP.pre fcCheckP.g fcColumn.pre fcColumn.g shCf fcPrintable.sh x:=by kernel_rfl
theorem io_look:IoSpec Tryd.prog U_raw 34 ioc_look:=
 fnIO_ok mixOk tabROk noPhi_ok Psi_klook_ok Tryd.func34 b_klook_ok (by kernel_rfl) fun x=>M.le_trans (M.le_of_eq (l_klook x)) (sLook x)
def b_k32:Code:=Tryd.f32.body.getD .skip
theorem b_k32_ok:Tryd.f32.body=some b_k32:=by kernel_rfl
def Psi_k32 (k:Nat):Option KC:=if k=33 then some (.io ioc_cut) else if k=34 then some (.io ioc_look) else none
theorem Psi_k32_ok:PsiOk Tryd.prog U_raw Psi_k32:=by
 intro k c h
 unfold Psi_k32 at h
 split at h
 ·cases h;subst_vars;exact io_cut
 split at h
 ·cases h;subst_vars;exact io_look
 cases h
def ann_k32:Ann:=(.seq .leaf (.seq .leaf (.seq (.seq .leaf (.cond (.seq .leaf .leaf) .leaf)) (.seq .leaf (.join ⟨[(3,.own 3),(5,.own 50150)],[(3,.arr t3),(50150,.arr t63r),(150000,.pool t5)]⟩ (.seq .leaf (.block (.loop ⟨[(3,.own 3),(5,.own 50150),(7,.val t3),(20,.own 50150),(21,.val t3),(22,.val t3)],[(3,.arr t3),(50150,.arr t63r),(150000,.pool t5)]⟩ (.seq .leaf (.seq (.cond .leaf .leaf) (.seq (.block (.seq .leaf (.seq .leaf (.join ⟨[(3,.own 3),(5,.own 50150),(7,.val t3),(9,.val t63r),(10,.val t3),(20,.own 50150),(21,.val t3),(22,.val t3)],[(3,.arr t3),(50150,.arr t63r),(150000,.pool t5)]⟩ (.seq .leaf (.seq .leaf (.block (.seq .leaf (.cond (.seq .leaf .leaf) (.seq .leaf (.cond .leaf .leaf))))))) (.seq .leaf .leaf))))) .leaf)))))) (.seq .leaf (.seq (.seq .leaf (.cond (.seq .leaf .leaf) .leaf)) (.seq .leaf .leaf))))))))
theorem l_k32 (x):funI U_raw (tabT tabR) noPhi Psi_k32 Tryd.f32 b_k32 ann_k32 t9 (.prod t22 (.prod t56 t26)) x=S_files_read shCut shLook fcText.pre fcText.g fcUnpack.pre fcUnpack.g x:=by kernel_rfl
theorem spec_k32:FnSpec Tryd.prog 32 t9 (.prod t22 (.prod t56 t26)) fcRead.sh:=
 fn_ok mixOk tabROk U_raw_ok noPhi_ok Psi_k32_ok Tryd.func32 b_k32_ok (by kernel_rfl) fun x=>M.le_trans (M.le_of_eq (l_k32 x)) (sRead x)
def b_k15:Code:=Tryd.f15.body.getD .skip
theorem b_k15_ok:Tryd.f15.body=some b_k15:=by kernel_rfl
def Psi_k15 (k:Nat):Option KC:=if k=32 then some (.sc ⟨t9,(.prod t22 (.prod t56 t26)),fcRead.sh,true⟩) else none
theorem Psi_k15_ok:PsiOk Tryd.prog noU Psi_k15:=by
 intro k c h
 unfold Psi_k15 at h
 split at h
 ·cases h;subst_vars;exact ⟨spec_k32,fun _ _=>M.det_det⟩
 cases h
def ann_k15:Ann:=(.seq .leaf (.seq .leaf (.join ⟨[(2,.val t22),(3,.own 3),(4,.val t3)],[(3,.arr t3)]⟩ (.seq .leaf (.block (.loop ⟨[(2,.val t22),(3,.own 3),(4,.val t3),(14,.val t29),(15,.val t3),(16,.val t3)],[(3,.arr t3)]⟩ (.seq .leaf (.seq (.cond .leaf .leaf) (.join ⟨[(2,.val t22),(3,.own 3),(4,.val t3),(14,.val t29),(15,.val t3),(16,.val t3)],[(3,.arr t3)]⟩ (.block (.seq .leaf (.seq .leaf (.cond .leaf .leaf)))) .leaf)))))) (.seq .leaf .leaf))))
theorem l_k15 (x):funI noU (tabT tab) noPhi Psi_k15 Tryd.f15 b_k15 ann_k15 t9 (.prod t22 (.prod t29 t26)) x=S_files_Read fcRead.sh x:=by kernel_rfl
theorem spec_k15:FnSpec Tryd.prog 15 t9 (.prod t22 (.prod t29 t26)) fcReadF.sh:=
 fn_ok mixOk tabOk noU_ok noPhi_ok Psi_k15_ok Tryd.func15 b_k15_ok (by kernel_rfl) fun x=>M.le_trans (M.le_of_eq (l_k15 x)) (sReadF x)
def b_k16:Code:=Tryd.f16.body.getD .skip
theorem b_k16_ok:Tryd.f16.body=some b_k16:=by kernel_rfl
def Psi_k16 (k:Nat):Option KC:=if k=32 then some (.sc ⟨t9,(.prod t22 (.prod t56 t26)),fcRead.sh,true⟩) else none
theorem Psi_k16_ok:PsiOk Tryd.prog noU Psi_k16:=by
 intro k c h
 unfold Psi_k16 at h
 split at h
 ·cases h;subst_vars;exact ⟨spec_k32,fun _ _=>M.det_det⟩
 cases h
def ann_k16:Ann:=(.seq .leaf (.seq .leaf (.seq .leaf .leaf)))
theorem l_k16 (x):funI noU (tabT tab) noPhi Psi_k16 Tryd.f16 b_k16 ann_k16 t9 (.prod t29 t26) x=S_files_Damage fcRead.sh x:=by kernel_rfl
theorem spec_k16:FnSpec Tryd.prog 16 t9 (.prod t29 t26) fcDamage.sh:=
 fn_ok mixOk tabOk noU_ok noPhi_ok Psi_k16_ok Tryd.func16 b_k16_ok (by kernel_rfl) fun x=>M.le_trans (M.le_of_eq (l_k16 x)) (sDamage x)
def b_k17:Code:=Tryd.f17.body.getD .skip
theorem b_k17_ok:Tryd.f17.body=some b_k17:=by kernel_rfl
def Psi_k17 (k:Nat):Option KC:=if k=33 then some (.io ioc_cut) else if k=34 then some (.io ioc_look) else none
theorem Psi_k17_ok:PsiOk Tryd.prog U_raw Psi_k17:=by
 intro k c h
 unfold Psi_k17 at h
 split at h
 ·cases h;subst_vars;exact io_cut
 split at h
 ·cases h;subst_vars;exact io_look
 cases h
def ann_k17:Ann:=(.seq .leaf (.seq .leaf (.seq (.seq .leaf (.cond (.seq .leaf .leaf) .leaf)) (.join ⟨[(3,.val t3),(5,.own 50130)],[(50130,.arr t63r),(150000,.pool t5)]⟩ (.seq .leaf (.block (.loop ⟨[(3,.val t3),(5,.own 50130),(18,.own 50130),(19,.val t3),(20,.val t3)],[(50130,.arr t63r),(150000,.pool t5)]⟩ (.seq .leaf (.seq (.cond .leaf .leaf) (.join ⟨[(3,.val t3),(5,.own 50130),(18,.own 50130),(19,.val t3),(20,.val t3)],[(50130,.arr t63r),(150000,.pool t5)]⟩ (.block (.seq .leaf (.seq .leaf (.seq .leaf (.cond .leaf .leaf))))) .leaf)))))) (.seq .leaf .leaf)))))
theorem l_k17 (x):funI U_raw (tabT tabR) noPhi Psi_k17 Tryd.f17 b_k17 ann_k17 t9 (.prod t3 (.prod t3 t26)) x=S_files_Check shCut shLook x:=by kernel_rfl
theorem spec_k17:FnSpec Tryd.prog 17 t9 (.prod t3 (.prod t3 t26)) fcCheckF.sh:=
 fn_ok mixOk tabROk U_raw_ok noPhi_ok Psi_k17_ok Tryd.func17 b_k17_ok (by kernel_rfl) fun x=>M.le_trans (M.le_of_eq (l_k17 x)) (sCheckF x)
end Go.Fer.Sk
namespace Go.Fer.Sk
open Go.Proofs
open M (Step)
set_option maxRecDepth 100000
set_option linter.unusedVariables false
set_option linter.unusedSimpArgs false
def b_k18:Code:=Tryd.f18.body.getD .skip
theorem b_k18_ok:Tryd.f18.body=some b_k18:=by kernel_rfl
def Psi_k18 (k:Nat):Option KC:=none
theorem Psi_k18_ok:PsiOk Tryd.prog noU Psi_k18:=by
 intro k c h
 unfold Psi_k18 at h
 cases h
def ann_k18:Ann:=(.seq .leaf (.seq (.seq .leaf (.cond (.seq .leaf .leaf) .leaf)) (.join ⟨[],[]⟩ (.seq .leaf (.block (.loop ⟨[(0,.val t22),(1,.val t22),(5,.val t3)],[]⟩ (.seq (.seq .leaf (.cond .leaf .leaf)) (.seq (.block (.seq .leaf (.cond (.seq .leaf .leaf) .leaf))) .leaf))))) (.seq .leaf .leaf))))
theorem l_k18 (x):funI noU (tabT tab) noPhi Psi_k18 Tryd.f18 b_k18 ann_k18 (.prod t22 t22) t4 x=S_law14_sameTexts  x:=by kernel_rfl
theorem spec_k18:FnSpec Tryd.prog 18 (.prod t22 t22) t4 fcSameT.sh:=
 fn_ok mixOk tabOk noU_ok noPhi_ok Psi_k18_ok Tryd.func18 b_k18_ok (by kernel_rfl) fun x=>M.le_trans (M.le_of_eq (l_k18 x)) (sSameT14 x)
def b_k24:Code:=Tryd.f24.body.getD .skip
theorem b_k24_ok:Tryd.f24.body=some b_k24:=by kernel_rfl
def Psi_k24 (k:Nat):Option KC:=none
theorem Psi_k24_ok:PsiOk Tryd.prog noU Psi_k24:=by
 intro k c h
 unfold Psi_k24 at h
 cases h
def ann_k24:Ann:=(.seq .leaf (.seq (.seq .leaf (.cond (.seq .leaf .leaf) .leaf)) (.join ⟨[],[]⟩ (.seq .leaf (.block (.loop ⟨[(0,.val t29),(1,.val t29),(5,.val t3)],[]⟩ (.seq (.seq .leaf (.cond .leaf .leaf)) (.seq (.block (.seq .leaf (.cond (.seq .leaf .leaf) .leaf))) .leaf))))) (.seq .leaf .leaf))))
theorem l_k24 (x):funI noU (tabT tab) noPhi Psi_k24 Tryd.f24 b_k24 ann_k24 (.prod t29 t29) t4 x=S_law14_sameInts  x:=by kernel_rfl
theorem spec_k24:FnSpec Tryd.prog 24 (.prod t29 t29) t4 fcSameI.sh:=
 fn_ok mixOk tabOk noU_ok noPhi_ok Psi_k24_ok Tryd.func24 b_k24_ok (by kernel_rfl) fun x=>M.le_trans (M.le_of_eq (l_k24 x)) (sSameI14 x)
def b_k11:Code:=Tryd.f11.body.getD .skip
theorem b_k11_ok:Tryd.f11.body=some b_k11:=by kernel_rfl
def Psi_k11 (k:Nat):Option KC:=if k=12 then some (.sc ⟨t22,(.prod t9 t26),fcWriteP.sh,true⟩) else if k=15 then some (.sc ⟨t9,(.prod t22 (.prod t29 t26)),fcReadF.sh,true⟩) else if k=16 then some (.sc ⟨t9,(.prod t29 t26),fcDamage.sh,true⟩) else if k=17 then some (.sc ⟨t9,(.prod t3 (.prod t3 t26)),fcCheckF.sh,true⟩) else if k=18 then some (.sc ⟨(.prod t22 t22),t4,fcSameT.sh,true⟩) else if k=24 then some (.sc ⟨(.prod t29 t29),t4,fcSameI.sh,true⟩) else none
theorem Psi_k11_ok:PsiOk Tryd.prog noU Psi_k11:=by
 intro k c h
 unfold Psi_k11 at h
 split at h
 ·cases h;subst_vars;exact ⟨spec_k12,fun _ _=>M.det_det⟩
 split at h
 ·cases h;subst_vars;exact ⟨spec_k15,fun _ _=>M.det_det⟩
 split at h
 ·cases h;subst_vars;exact ⟨spec_k16,fun _ _=>M.det_det⟩
 split at h
 ·cases h;subst_vars;exact ⟨spec_k17,fun _ _=>M.det_det⟩
 split at h
 ·cases h;subst_vars;exact ⟨spec_k18,fun _ _=>M.det_det⟩
 split at h
 ·cases h;subst_vars;exact ⟨spec_k24,fun _ _=>M.det_det⟩
 cases h
def ann_k11:Ann:=(.seq .leaf (.seq .leaf (.seq .leaf (.seq .leaf (.seq .leaf (.seq .leaf .leaf))))))
theorem l_k11 (x):funI noU (tabT tab) noPhi Psi_k11 Tryd.f11 b_k11 ann_k11 .unit t4 x=S_law14_works fcWriteP.sh fcReadF.sh fcDamage.sh fcCheckF.sh fcSameT.sh fcSameI.sh x:=by kernel_rfl
theorem spec_k11:FnSpec Tryd.prog 11 .unit t4 fcWorks.sh:=
 fn_ok mixOk tabOk noU_ok noPhi_ok Psi_k11_ok Tryd.func11 b_k11_ok (by kernel_rfl) fun x=>M.le_trans (M.le_of_eq (l_k11 x)) (sWorks x)
def b_k19:Code:=Tryd.f19.body.getD .skip
theorem b_k19_ok:Tryd.f19.body=some b_k19:=by kernel_rfl
def Psi_k19 (k:Nat):Option KC:=none
theorem Psi_k19_ok:PsiOk Tryd.prog noU Psi_k19:=by
 intro k c h
 unfold Psi_k19 at h
 cases h
def ann_k19:Ann:=(.seq .leaf (.seq .leaf (.join ⟨[(0,.val t22),(3,.val t3)],[]⟩ (.seq .leaf (.block (.loop ⟨[(0,.val t22),(3,.val t3),(4,.val t3)],[]⟩ (.seq (.seq .leaf (.cond .leaf .leaf)) (.seq (.block .leaf) .leaf))))) (.seq .leaf .leaf))))
theorem l_k19 (x):funI noU (tabT tab) noPhi Psi_k19 Tryd.f19 b_k19 ann_k19 t22 t4 x=S_law14_Far  x:=by kernel_rfl
theorem spec_k19:FnSpec Tryd.prog 19 t22 t4 fcFar.sh:=
 fn_ok mixOk tabOk noU_ok noPhi_ok Psi_k19_ok Tryd.func19 b_k19_ok (by kernel_rfl) fun x=>M.le_trans (M.le_of_eq (l_k19 x)) (sFar x)
end Go.Fer.Sk
namespace Go.Fer.Sk
open Go.Proofs
open M (Step)
set_option maxRecDepth 100000
set_option linter.unusedVariables false
set_option linter.unusedSimpArgs false
def b_k5:Code:=Tryd.f5.body.getD .skip
theorem b_k5_ok:Tryd.f5.body=some b_k5:=by kernel_rfl
def Psi_k5 (k:Nat):Option KC:=if k=11 then some (.sc ⟨.unit,t4,fcWorks.sh,true⟩) else if k=12 then some (.sc ⟨t22,(.prod t9 t26),fcWriteP.sh,true⟩) else if k=18 then some (.sc ⟨(.prod t22 t22),t4,fcSameT.sh,true⟩) else if k=19 then some (.sc ⟨t22,t4,fcFar.sh,true⟩) else if k=20 then some (.sc ⟨t22,(.prod t9 t26),fcWriteR.sh,true⟩) else none
theorem Psi_k5_ok:PsiOk Tryd.prog noU Psi_k5:=by
 intro k c h
 unfold Psi_k5 at h
 split at h
 ·cases h;subst_vars;exact ⟨spec_k11,fun _ _=>M.det_det⟩
 split at h
 ·cases h;subst_vars;exact ⟨spec_k12,fun _ _=>M.det_det⟩
 split at h
 ·cases h;subst_vars;exact ⟨spec_k18,fun _ _=>M.det_det⟩
 split at h
 ·cases h;subst_vars;exact ⟨spec_k19,fun _ _=>M.det_det⟩
 split at h
 ·cases h;subst_vars;exact ⟨spec_k20,fun _ _=>M.det_det⟩
 cases h
def ann_k5:Ann:=(.seq .leaf (.seq (.seq .leaf (.cond (.seq .leaf .leaf) .leaf)) (.seq .leaf (.seq .leaf (.seq .leaf (.seq .leaf .leaf))))))
theorem l_k5 (x):funI noU (tabT tab) noPhi Psi_k5 Tryd.f5 b_k5 ann_k5 t22 t4 x=S_law14_FilesWritten fcWorks.sh fcWriteP.sh fcSameT.sh fcFar.sh fcWriteR.sh x:=by kernel_rfl
theorem spec_k5:FnSpec Tryd.prog 5 t22 t4 (fun x=>S_law14_FilesWritten fcWorks.sh fcWriteP.sh fcSameT.sh fcFar.sh fcWriteR.sh x):=
 fn_ok mixOk tabOk noU_ok noPhi_ok Psi_k5_ok Tryd.func5 b_k5_ok (by kernel_rfl) fun x=>M.le_of_eq (l_k5 x)
end Go.Fer.Sk
namespace Go.Fer.Sk
open Go Go.Proofs
set_option linter.unusedVariables false
theorem handed_shaped {H:Type} {enc:TypeId×Value→H} {a:Assume} {C:Checked} {os:Os} {f:FuncId} {fn:Func} {s:ChangeSpec} {conds:List PathCond} {apart fresh handsOn again:Bool} {X:World→Array Value→Prop}
  (hX:∀ (w w':World) (args:Array Value),w.heap=w'.heap→X w args→X w' args)
  (own:ownKnob C.prog.godebug=none) (started:os.Started) (noInit:C.prog.inits.idxOf? f=none) (hfn:C.prog.funcs[f]?=some fn)
  (witness:∃ (w:World) (tape:Tape) (i:Input),w.os=os∧(w.forCall tape i).Shaped C.prog∧i.vars=[]∧Input.okWide C.prog (w.forCall tape i) .any w.heap.size f i∧
   ((s.pre enc C.prog fn conds apart (w.forCall tape i).memory i.args∧X (w.forCall tape i).memory i.args)∧sizedMet enc C.prog fn (OpenSpec.ofChange s) apart (w.forCall tape i).memory i.args)∧a.holds C.prog (lone (Frame.enter C.prog f i.args .normal) [] (w.forCall tape i)))
  (contract:∀ (W:World) (base:Nat) (args:Array Value) (ds gs:List (DataW H)) (before:List MemPlace),
   (∀ (j:Nat) t v,fn.params[j]?=some t→args[j]?=some v→Value.okWide C.prog W .any base t v)→
   DataW.Whole enc C.prog fn.params.toList s.vars apart W args.toList ds gs before→
   W.ShapedOpen C.prog→
   Calls C.prog f args W fun e W'=>∃ v,e=.returned v∧s.post enc C.prog fn apart fresh handsOn again W args v W') :
  ReturnsInHanded a C os f .any (fun w args=>(s.pre enc C.prog fn conds apart w args∧X w args)∧sizedMet enc C.prog fn (OpenSpec.ofChange s) apart w args) (s.post enc C.prog fn apart fresh handsOn again):=by
 refine returnsInHanded_of_calls own started noInit witness ?_
 intro w tape i _ hsh _ hok hpre hholds
 obtain ⟨_,_,_,fn',hfn',_,_,_,_,hval⟩:=hok
 have e:fn'=fn:=Option.some.inj (hfn'.symm.trans hfn)
 subst e
 obtain ⟨⟨⟨ds,gs,before,hw,hc⟩,hx⟩,hz⟩:=hpre
 have hw':=DataW.Whole.of_heap (w':=w.forCall tape i) (by rfl) hw
 refine (contract (w.forCall tape i) w.heap.size i.args ds gs before hval hw' hsh).mono fun e W' ⟨v,he,hp⟩=>?_
 subst he
 exact ChangeSpec.post_blind hp
theorem glob_ok {W:World} (h:W.ShapedOpen Tryd.prog):GlOk Tryd.prog (AllF W) W:=fun _=>by
 have hc:∃ m,W.cell? ⟨0,0,none⟩=some (.int .i64 m):=cell_of_shapedOpen_int (t:=3) (zero:=#[.int .i64 0]) h (of_decide_eq_true (by kernel_rfl)) (by kernel_rfl) rfl (by kernel_rfl) (by kernel_rfl) Tryd.underlying3
 refine ⟨?_,hc⟩
 obtain ⟨m,hm⟩:=hc
 unfold World.cell? at hm
 show 0<W.heap.size
 rcases Nat.eq_zero_or_pos W.heap.size with e | e
 ·have:W.heap[0]?=none:=Array.getElem?_eq_none (by omega)
  rw [this] at hm
  cases hm
 ·exact e
end Go.Fer.Sk
