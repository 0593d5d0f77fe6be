/- Part 6 of the proof of FilesJoined: shallow programs of Go functions, and what they compute. No condition. -/
import Derived.Test.YtgjjjhfempihkaaDoorFilesJoinedE
import Derived.Handed
import Derived.Shelf.Vars
noncomputable section
namespace Go.Fer
open M (Step)
set_option linter.unusedVariables false
set_option linter.unusedSimpArgs false
structure PoolB (m:Pool) (out:List (List Hd)) (O:List (List (List UInt8))):Prop where
 nd:(m.map (·.1)).Nodup
 ok:∀ b∈out,∀ h∈b,hOk m h
 ids:(out.flatten.map (·.1)).Nodup
 dat:out.map (rowsH m)=O.map (List.map numsOf)
structure Kept (m0 m:Pool) (out:List (List Hd)):Prop where
 old:∀ id∈m0.map (·.1),prow m id=prow m0 id∧id∈m.map (·.1)
 new:∀ id∈out.flatten.map (·.1),id ∉ m0.map (·.1)
theorem any_key {m:Pool} {id:Nat}:m.any (fun p=>p.1 == id)=true↔id∈m.map (·.1):=by
 rw [List.any_eq_true,List.mem_map]
 constructor
 ·rintro ⟨p,hp,e⟩;exact ⟨p,hp,by simpa using e⟩
 ·rintro ⟨p,hp,e⟩;exact ⟨p,hp,by simpa using e⟩
theorem prow_cons_other {m:Pool} {id j:Nat} {r:List Int} (h:j≠id):prow ((id,r)::m) j=prow m j:=by
 unfold prow
 rw [List.find?_cons_of_neg (by simpa using fun e=>h e.symm)]
theorem prow_cons_same {m:Pool} {id:Nat} {r:List Int}:prow ((id,r)::m) id=r:=by
 unfold prow
 rw [List.find?_cons_of_pos (by simp)]
theorem hOk.key {m:Pool} {h:Hd} (k:hOk m h):h.1∈m.map (·.1):=any_key.1 k.1
theorem PoolB.start {m:Pool} {out O} (h:PoolB m out O):PoolB m (out++[[]]) (O++[[]]) where
 nd:=h.nd
 ok:=fun b hb k hk=>by
  rcases List.mem_append.1 hb with hb | hb
  ·exact h.ok b hb k hk
  ·rw [List.mem_singleton] at hb;subst hb;cases hk
 ids:=by rw [List.flatten_append];simpa using h.ids
 dat:=by rw [List.map_append,List.map_append,h.dat];rfl
theorem rowsH_cons {m:Pool} {id:Nat} {r:List Int} {b:List Hd} (h:∀ k∈b,hOk m k) (hn:id ∉ m.map (·.1)):rowsH ((id,r)::m) b=rowsH m b:=by
 unfold rowsH
 refine List.map_congr_left fun k hk=>prow_cons_other fun e=>hn ?_
 rw [←e]
 exact (h k hk).key
theorem hOk_cons {m:Pool} {id:Nat} {r:List Int} {k:Hd} (h:hOk m k) (hn:id ∉ m.map (·.1)):hOk ((id,r)::m) k:=by
 obtain ⟨h1,h2,h3⟩:=h
 refine ⟨any_key.2 (List.mem_cons_of_mem _ (any_key.1 h1)),h2,?_⟩
 rw [h3,prow_cons_other]
 intro e
 exact hn (by rw [←e];exact any_key.1 h1)
theorem flatten_push {α:Type} (out:List (List α)) (b:List α) (x:α):(out++[b++[x]]).flatten=(out++[b]).flatten++[x]:=by simp
theorem PoolB.push {m:Pool} {out b O L} (h:PoolB m (out++[b]) (O++[L])) {id:Nat} (hn:id ∉ m.map (·.1)) (t:List UInt8) :
  PoolB ((id,numsOf t)::m) (out++[b++[(id,0,t.length)]]) (O++[L++[t]]) where
 nd:=by
  rw [List.map_cons,List.nodup_cons]
  exact ⟨hn,h.nd⟩
 ok:=fun c hc k hk=>by
  rcases List.mem_append.1 hc with hc | hc
  ·exact hOk_cons (h.ok c (List.mem_append_left _ hc) k hk) hn
  ·rw [List.mem_singleton] at hc
   subst hc
   rcases List.mem_append.1 hk with hk | hk
   ·exact hOk_cons (h.ok b (by simp) k hk) hn
   ·rw [List.mem_singleton] at hk
    subst hk
    exact ⟨any_key.2 (by simp),rfl,by rw [prow_cons_same,numsOf_len]⟩
 ids:=by
  rw [flatten_push,List.map_append,List.nodup_append]
  refine ⟨h.ids,by simp,fun a ha c hc=>?_⟩
  rw [List.map_cons,List.map_nil,List.mem_singleton] at hc
  subst hc
  intro e
  subst e
  obtain ⟨k,hk,e⟩:=List.mem_map.1 ha
  obtain ⟨c,hc,hkc⟩:=List.mem_flatten.1 hk
  exact hn (by rw [←e];exact (h.ok c hc k hkc).key)
 dat:=by
  have hd:=h.dat
  rw [List.map_append,List.map_append] at hd
  have hl:(out.map (rowsH m)).length=(O.map (List.map numsOf)).length:=by
   have:=congrArg List.length hd
   simpa using this
  obtain ⟨d1,d2⟩:=List.append_inj hd hl
  rw [List.map_append,List.map_append,←d1]
  congr 1
  ·exact List.map_congr_left fun c hc=>rowsH_cons (fun k hk=>h.ok c (List.mem_append_left _ hc) k hk) hn
  ·simp only [List.map_cons,List.map_nil,List.cons.injEq,and_true] at d2 ⊢
   rw [List.map_append,←d2]
   have e:rowsH ((id,numsOf t)::m) (b++[(id,0,t.length)])=rowsH ((id,numsOf t)::m) b++[prow ((id,numsOf t)::m) id]:=by unfold rowsH;rw [List.map_append];rfl
   rw [e,prow_cons_same,rowsH_cons (fun k hk=>h.ok b (by simp) k hk) hn]
   rfl
theorem Kept.start {m0 m:Pool} {out} (h:Kept m0 m out):Kept m0 m (out++[[]]):=⟨h.old,by rw [List.flatten_append];simpa using h.new⟩
theorem Kept.push {m0 m:Pool} {out b} (h:Kept m0 m (out++[b])) {id:Nat} (hn:id ∉ m.map (·.1)) (r:List Int) (n:Nat):Kept m0 ((id,r)::m) (out++[b++[(id,0,n)]]) where
 old:=fun j hj=>by
  obtain ⟨h1,h2⟩:=h.old j hj
  have:j≠id:=fun e=>hn (by rw [←e];exact h2)
  exact ⟨(prow_cons_other this).trans h1,List.mem_cons_of_mem _ h2⟩
 new:=fun j hj=>by
  rw [flatten_push,List.map_append] at hj
  rcases List.mem_append.1 hj with hj | hj
  ·exact h.new j hj
  ·rw [List.map_cons,List.map_nil,List.mem_singleton] at hj
   subst hj
   exact fun k=>hn (h.old _ k).2
theorem Kept.drop {m0 m:Pool} {out} (h:Kept m0 m out):Kept m0 m []:=⟨h.old,by simp⟩
theorem PoolB.drop {m:Pool} {out O} (h:PoolB m out O):PoolB m [] []:=⟨h.nd,by simp,by simp,rfl⟩
theorem fresh_id (l:List Nat):∃ id,¬List.Mem id l:=by
 refine ⟨l.foldl (fun a b=>max a b) 0+1,fun h=>?_⟩
 have key:∀ (l:List Nat) (n:Nat),n≤l.foldl (fun a b=>max a b) n∧∀ x∈l,x≤l.foldl (fun a b=>max a b) n:=by
  intro l
  induction l with
  | nil=>intro n;exact ⟨Nat.le_refl _,by simp⟩
  | cons a l ih=>
   intro n
   obtain ⟨h1,h2⟩:=ih (max n a)
   refine ⟨by rw [List.foldl_cons];omega,fun x hx=>?_⟩
   rcases List.mem_cons.1 hx with rfl | hx
   ·rw [List.foldl_cons];omega
   ·exact h2 x hx
 have:=(key l 0).2 _ h
 omega
theorem M.ret_any {α:Type} {q p:α→Prop}:M.Ret (M.any q) p↔(∃ x,q x)∧∀ x,q x→p x:=Iff.rfl
abbrev fcCutP:FC:=⟨.prod .str .str,.prod .str (.prod .str .bool),fun x=>x.2=[10,10]∧List.length x.1<4294967281,fun x=>match cut2 x.1 with | some p=>(p.1,p.2,true) | none=>(x.1,[],false)⟩
abbrev fcSplitP:FC:=⟨.prod .str .str,.slice .str,fun x=>x.2=[10]∧List.length x.1<4294967281,fun x=>linesOf x.1⟩
def oddV (r:List Int) (w:Option Int):Bool:=decide ((r.length:Int)≠w.getD 0)||!(bytesOf r).all okB
abbrev fcOdd:FC:=⟨.prod (.slice (.int .u8)) (.ptr (.int .i64)),.bool,fun x=>∃ w,x.2=some w,fun x=>oddV x.1 x.2⟩
theorem sOdd (x):M.le (S_files_cut_c1 fcIsT.sh x) (fcOdd.sh x):=M.le_det fun _=>by
 change List Int×Option Int at x
 obtain ⟨r,w⟩:=x
 unfold S_files_cut_c1
 show _=M.pure (oddV r w)
 simp only [FC.sh,M.det_True,M.gdo_pure,M.bind_pure,ofNat_def]
 unfold oddV
 cases decide ((r.length:Int)≠w.getD 0)<;>rfl
abbrev CtT:Type:=List UInt8×Pool×Unit
abbrev CtR:Type:=Bool×List (List Hd)×Pool×Unit
def postCut (x:CtT) (y:CtR):Prop:=y.1=(blocksV x.1).1∧PoolB y.2.2.1 y.2.1 (if (blocksV x.1).1=true then (blocksV x.1).2 else [])∧Kept x.2.1 y.2.2.1 y.2.1
def shCut (x:CtT):M CtR:=⟨x.1.length<65536∧(x.2.1.map (·.1)).Nodup,postCut x⟩
theorem sCut (x):M.le (S_io_cut fcCutP.sh fcSplitP.sh (fcContainsFunc (.slice (.int .u8))).pre (fcContainsFunc (.slice (.int .u8))).g fcOdd.sh x) (shCut x):=fun h=>by
 obtain ⟨f,m0,u⟩:=x
 obtain ⟨h1,h2⟩:=h
 change f.length<65536 at h1
 change (m0.map (·.1)).Nodup at h2
 show M.Ret _ (postCut (f,m0,u))
 unfold S_io_cut
 dsimp only
 rw [M.ret_bind]
 refine M.ret_loop (fun s=>∃ O,PoolB s.2.2.1 s.2.1 O∧Kept m0 s.2.2.1 s.2.1∧blkE (blkG s.1 ([],O,[]))=blocksV f∧s.2.1.length+s.1.length≤f.length) (fun s=>s.1.length) ?_ _ ?_
 ·rintro ⟨file,out,m,u⟩ ⟨O,g1,g2,g3,g4⟩
  change PoolB m out O at g1
  change Kept m0 m out at g2
  change blkE (blkG file ([],O,[]))=blocksV f at g3
  change out.length+file.length≤f.length at g4
  dsimp only
  by_cases hf:file=[]
  ·subst hf
   rw [if_neg (by simp),M.bind_pure]
   refine M.ret_pure.2 ?_
   show M.Ret (M.pure (true,out,m,())) _
   refine M.ret_pure.2 ?_
   have e:blocksV f=(true,O):=g3.symm
   refine ⟨by rw [e],?_,g2⟩
   show PoolB m out (if (blocksV f).1=true then (blocksV f).2 else [])
   rw [e]
   exact g1
  ·rw [if_pos (decide_eq_true hf),show fcCutP.sh (file,[10,10])=M.pure (match cut2 file with | some p=>(p.1,p.2,true) | none=>(file,[],false)) from M.det_true (show ([10,10]:List UInt8)=[10,10]∧file.length<4294967281 from ⟨rfl,by omega⟩) _,M.bind_pure]
   cases hc:cut2 file with
   | none=>
    have hb:(blocksV f).1=false:=by rw [←g3];exact blk_noCut hf hc
    dsimp only
    rw [if_pos (by rfl),M.bind_pure,M.bind_pure]
    refine M.ret_pure.2 ?_
    show M.Ret (M.pure (false,[],m,())) _
    refine M.ret_pure.2 ⟨hb.symm,?_,g2.drop⟩
    show PoolB m [] (if (blocksV f).1=true then (blocksV f).2 else [])
    rw [hb]
    exact g1.drop
   | some p=>
    obtain ⟨t,r⟩:=p
    have hbc:=blk_cut (O:=O) hc
    rw [g3] at hbc
    obtain ⟨hfe,_⟩:=cut2_some _ _ _ hc
    have hfl:file.length=t.length+2+r.length:=by rw [hfe];simp;omega
    obtain ⟨l1,l2⟩:=linesOf_len t
    have hne:=linesOf_ne t
    dsimp only
    rw [if_neg (by decide),show fcSplitP.sh (t,[10])=M.pure (linesOf t) from M.det_true (show ([10]:List UInt8)=[10]∧t.length<4294967281 from ⟨rfl,by omega⟩) _,M.bind_pure]
    generalize hL:linesOf t=L at hbc l1 l2 hne
    rw [M.ret_bind]
    refine M.ret_loopN L.length (fun i s=>s.1=r∧s.2.1=L∧s.2.2.1=(L.length:Int)∧s.2.2.2.1=(i:Int)∧s.2.2.2.2.1=out∧s.2.2.2.2.2.1.length=i∧PoolB s.2.2.2.2.2.2.1 (out++[s.2.2.2.2.2.1]) (O++[L.take i])∧Kept m0 s.2.2.2.2.2.2.1 (out++[s.2.2.2.2.2.1])) ⟨rfl,rfl,rfl,rfl,rfl,rfl,g1.start,g2.start⟩ ?_ ?_
    ·rintro i hi ⟨s1,s2,s3,s4,s5,b,m',u'⟩ ⟨e1,e2,e3,e4,e5,e6,k1,k2⟩
     change s1=r at e1
     change s2=L at e2
     change s3=_ at e3
     change s4=_ at e4
     change s5=out at e5
     change b.length=i at e6
     change PoolB m' (out++[b]) _ at k1
     change Kept m0 m' (out++[b]) at k2
     subst e1 e2 e3 e4 e5
     have hw:=wrap64 (n:=(i:Int)+1) (by omega) (by omega)
     have hl:=l2 _ (List.getElem_mem hi)
     simp only [ofNat_def,lt_len hi,if_true,getD_nat hi,in_len hi,M.req_True,Prod.q5,Prod.q6,add_def,add_defN,hw]
     rw [M.ret_bind,M.ret_req]
     refine ⟨by unfold lenLe;omega,M.ret_any.2 ⟨fresh_id _,fun id hid=>?_⟩⟩
     have hid:id ∉ m'.map (·.1):=hid
     rw [M.ret_req]
     refine ⟨by unfold lenLe;omega,M.ret_pure.2 ?_⟩
     refine ⟨rfl,rfl,rfl,?_,rfl,by show (b++[_]).length=i+1;simp;omega,?_,k2.push hid _ _⟩
     ·show (i:Int)+1=((i+1:Nat):Int);omega
     ·have:=k1.push hid s2[i]
      rw [List.take_add_one,List.getElem?_eq_getElem hi]
      exact this
    ·rintro ⟨s1,s2,s3,s4,s5,b,m',u'⟩ ⟨e1,e2,e3,e4,e5,e6,k1,k2⟩
     change s1=r at e1
     change s2=L at e2
     change s3=_ at e3
     change s4=_ at e4
     change s5=out at e5
     change b.length=L.length at e6
     change PoolB m' (out++[b]) _ at k1
     change Kept m0 m' (out++[b]) at k2
     subst e1 e2 e3 e4 e5
     rw [List.take_length] at k1
     dsimp only
     rw [if_neg (by simp),M.bind_pure]
     refine M.ret_pure.2 ?_
     show M.Ret (M.req _ _) _
     simp only [Prod.q5,Prod.q6,ofNat_def,add_defN]
     have hL0:0<s2.length:=List.length_pos_iff.2 hne
     have hb0:0<b.length:=by omega
     have hdat:rowsH m' b=s2.map numsOf:=by
      have hd:=k1.dat
      rw [List.map_append,List.map_append] at hd
      have:=(List.append_inj' hd rfl).2
      simpa using this
     have hok:∀ h∈b,hOk m' h:=fun k hk=>k1.ok b (by simp) k hk
     obtain ⟨d1,d2⟩:=deref_rows hok
     have hw0:((b.getD 0 (0,0,0)).2.2:Nat)=(s2.getD 0 []).length:=by
      rw [(hok _ (getD_memH hb0)).2.2,←rowsH_get hb0,hdat]
      rw [List.getD_eq_getElem?_getD,List.getD_eq_getElem?_getD,List.getElem?_map,List.getElem?_eq_getElem hL0]
      exact numsOf_len _
     have z:(0:Int).toNat=0:=rfl
     have hany:=isBlock_any hne
     generalize hw:(s2.getD 0 []).length=w at hw0 hany
     have hb0':((b.length:Nat):Int)=(s2.length:Int):=by omega
     have c1:decide ((b.length:Int)<2)=decide (s2.length<2):=decide_eq_decide.2 (by omega)
     have c2:decide ((b.length:Int) > 9)=decide (s2.length > 9):=decide_eq_decide.2 (by omega)
     have c3:decide ((w:Int)<2)=decide (w<2):=decide_eq_decide.2 (by omega)
     have c4:decide ((w:Int) > 62)=decide (w > 62):=decide_eq_decide.2 (by omega)
     have hodd:∀ y,fcOdd.sh (y,some ((w:Nat):Int))=M.pure (oddV y (some ((w:Nat):Int))):=fun y=>M.det_true ⟨_,rfl⟩ _
     have hdr:deref (.int .u8) m' (.prod (.slice (.raws (.int .u8))) (.fn (.slice (.int .u8)) .bool)) (b,fun x=>fcOdd.sh (x,some ((w:Nat):Int)))=((s2.map numsOf,fun x=>fcOdd.sh (x,some ((w:Nat):Int))):List (List Int)×(List Int→M Bool)):=by
      rw [←hdat]
      exact congrArg (fun z:List (List Int)=>((z,fun x=>fcOdd.sh (x,some ((w:Nat):Int))):List (List Int)×(List Int→M Bool))) d2
     have hgv:((s2.map numsOf).any fun y=>(fcOdd.sh (y,some ((w:Nat):Int))).val false)=s2.any fun r=>decide (r.length≠w)||!r.all okB:=by
      rw [List.any_map]
      congr 1
      funext r
      show (fcOdd.sh (numsOf r,some ((w:Nat):Int))).val false=_
      rw [hodd,M.val_pure]
      unfold oddV
      rw [bytesOf_numsOf,numsOf_len]
      congr 1
      exact decide_eq_decide.2 (by show (r.length:Int)≠(w:Int)↔r.length≠w;omega)
     simp only [z,hw0,c1,c2,c3,c4]
     erw [hdr]
     dsimp only
     erw [hgv]
     rw [M.ret_req]
     refine ⟨⟨Int.le_refl _,by omega⟩,?_⟩
     rw [M.ret_req]
     refine ⟨fun e=>⟨⟨e,e,trivial⟩,⟨⟨d1,trivial⟩,⟨by show (s2.map numsOf).length<2 ^ 63;simp;omega,fun y _=>⟨_,hodd y⟩⟩⟩,trivial⟩,?_⟩
     rw [hany]
     cases hB:isBlockV s2 with
     | false=>
      rw [hB] at hbc
      rw [if_pos (show (!false)=true from rfl),M.bind_pure,M.bind_pure]
      refine M.ret_pure.2 ?_
      show M.Ret (M.pure (false,[],m',())) _
      refine M.ret_pure.2 ⟨?_,?_,k2.drop⟩
      ·show false=(blocksV f).1;rw [hbc];rfl
      ·show PoolB m' [] (if (blocksV f).1=true then (blocksV f).2 else [])
       rw [hbc]
       exact k1.drop
     | true=>
      rw [hB,if_pos rfl] at hbc
      rw [if_neg (by decide),M.ret_req]
      refine ⟨by unfold lenLe;omega,M.ret_pure.2 ?_⟩
      exact ⟨⟨O++[s2],k1,k2,hbc.symm,by show (s5++[b]).length+s1.length≤_;simp;omega⟩,by show s1.length<file.length;omega⟩
 ·exact ⟨[],⟨h2,by simp,by simp,rfl⟩,⟨fun id hid=>⟨rfl,hid⟩,by simp⟩,rfl,by simp⟩
end Go.Fer
namespace Go.Fer
open M (Step)
set_option linter.unusedVariables false
set_option linter.unusedSimpArgs false
abbrev numsB (l:List (List UInt8)):List (List Int):=l.map numsOf
theorem numsOf_take (r:List UInt8) (k:Nat):numsOf (r.take k)=(numsOf r).take k:=by unfold numsOf;rw [List.map_take]
theorem shaped.nums {W:Nat} {l:List (List UInt8)} (h:shaped W l):shapedI W (numsB l):=by
 obtain ⟨h1,h2,h3,h4,h5⟩:=h
 refine ⟨by simpa using h1,by simpa using h2,h3,h4,fun r hr=>?_⟩
 obtain ⟨t,ht,rfl⟩:=List.mem_map.1 hr
 rw [numsOf_len,numsOf_okI]
 exact h5 t ht
theorem rowBad_nums {W:Nat} {r:List UInt8} (h:r.length=W) (ho:r.all okB=true):rowBadS W r=rowBadI (numsOf r):=by
 subst h
 unfold rowBadS rowBadI
 rw [numsOf_len,numsOf_get,←numsOf_take,←chkS_nat (all_take ho _)]
 refine decide_eq_decide.2 ?_
 refine not_congr ?_
 constructor
 ·intro e;rw [e]
 ·intro e;exact (UInt8.toNat_inj.1 (by omega))
theorem colS_all {l:List (List UInt8)} {W c:Nat} (h:∀ r∈l,r.length=W∧r.all okB=true) (hc:c<W):(colS l (c:Int)).all okB=true:=colS_ok fun r hr=>⟨(h r hr).2,by have:=(h r hr).1;omega⟩
theorem getD_nums {l:List (List UInt8)} {k:Nat}:(numsB l).getD k []=numsOf (l.getD k []):=by
 rw [List.getD_eq_getElem?_getD,List.getD_eq_getElem?_getD,List.getElem?_map]
 cases l[k]?<;>rfl
theorem colBad_nums {W c:Nat} {l:List (List UInt8)} (h:shaped W l) (hc:c<W):colBadS l c=colBadI (numsB l) c:=by
 obtain ⟨h1,h2,h3,h4,h5⟩:=h
 unfold colBadS colBadI
 rw [List.length_map,getD_nums,numsOf_get,←List.map_take,←colS_nums,←chkS_nat (colS_all (fun r hr=>h5 r (List.mem_of_mem_take hr)) hc)]
 refine decide_eq_decide.2 ?_
 refine not_congr ?_
 constructor
 ·intro e;rw [e]
 ·intro e;exact (UInt8.toNat_inj.1 (by omega))
theorem badRows_nums {W:Nat} {l:List (List UInt8)} (h:shaped W l):badRows W l=badRowsI (numsB l):=by
 unfold badRows badRowsI
 rw [List.length_map]
 refine List.filter_congr fun v hv=>?_
 obtain ⟨i,hi,rfl⟩:=List.mem_map.1 hv
 have hi:=List.mem_range.1 hi
 have z:((i:Int)).toNat=i:=rfl
 rw [z,getD_nums]
 have hm:l.getD i []∈l:=by rw [List.getD_eq_getElem?_getD,List.getElem?_eq_getElem hi];exact List.getElem_mem hi
 exact rowBad_nums (h.2.2.2.2 _ hm).1 (h.2.2.2.2 _ hm).2
theorem badCols_nums {W:Nat} {l:List (List UInt8)} (h:shaped W l):badCols W l=badColsI W (numsB l):=by
 unfold badCols badColsI
 refine List.filter_congr fun v hv=>?_
 obtain ⟨i,hi,rfl⟩:=List.mem_map.1 hv
 have hi:=List.mem_range.1 hi
 exact colBad_nums h hi
def lookS (l:List (List UInt8)):Int×Int×Int:=lookI (wideL l) (numsB l)
def fixR (R:List (List Int)):List (List Int):=if (lookI (wideI R) R).1=1 then mendI R (lookI (wideI R) R).2.1 (lookI (wideI R) R).2.2 else R
def fixS (l:List (List UInt8)):List (List UInt8):=(fixR (numsB l)).map bytesOf
theorem lookI_cases (W:Nat) (R:List (List Int)) :
  (lookI W R=(0,0,0)∧(badRowsI R).length+(badColsI W R).length=0)∨
  (lookI W R=(2,0,0)∧(badRowsI R).length+(badColsI W R).length≠0)∨
  (∃ i j:Nat,lookI W R=(1,(i:Int),(j:Int))∧i<R.length∧j<W∧badRowsI R=[(i:Int)]∧badColsI W R=[(j:Int)]∧colBadI (mendI R (i:Int) (j:Int)) j=false):=by
 unfold lookI
 by_cases c1:(badRowsI R).length+(badColsI W R).length=0
 ·exact .inl ⟨if_pos c1,c1⟩
 ·rw [if_neg c1]
  by_cases c2:(badRowsI R).length≠1∨(badColsI W R).length≠1
  ·exact .inr (.inl ⟨if_pos c2,c1⟩)
  ·rw [if_neg c2]
   obtain ⟨v1,e1⟩:=List.length_eq_one_iff.1 (show (badRowsI R).length=1 by omega)
   obtain ⟨v2,e2⟩:=List.length_eq_one_iff.1 (show (badColsI W R).length=1 by omega)
   obtain ⟨i,hi,rfl,hib⟩:=badRowsI_mem.1 (show v1∈badRowsI R by rw [e1];simp)
   obtain ⟨j,hj,rfl,hjb⟩:=badColsI_mem.1 (show v2∈badColsI W R by rw [e2];simp)
   rw [e1,e2]
   have g1:List.getD [(i:Int)] 0 0=(i:Int):=rfl
   have g2:List.getD [(j:Int)] 0 0=(j:Int):=rfl
   have zj:((j:Int)).toNat=j:=rfl
   rw [g1,g2,zj]
   cases c3:colBadI (mendI R (i:Int) (j:Int)) j with
   | true=>exact .inr (.inl ⟨if_pos rfl,by rw [←e1,←e2];exact c1⟩)
   | false=>exact .inr (.inr ⟨i,j,if_neg (by decide),hi,hj,rfl,rfl,c3⟩)
theorem getD_memR {R:List (List Int)} {k:Nat} (h:k<R.length):R.getD k []∈R:=by
 rw [List.getD_eq_getElem?_getD,List.getElem?_eq_getElem h]
 exact List.getElem_mem h
theorem mendI_shaped {W:Nat} {R:List (List Int)} (h:shapedI W R) {i j:Nat} (hi:i<R.length) (hj:j<W):shapedI W (mendI R (i:Int) (j:Int)):=by
 obtain ⟨h1,h2,h3,h4,h5⟩:=h
 have zi:((i:Int)).toNat=i:=rfl
 have hr:=h5 _ (getD_memR hi)
 have hrok:rowOk (R.getD i []):=⟨by omega,by omega,hr.2⟩
 have hfx:=fixI_ok hrok (a:=(j:Int)) (by omega) (by omega)
 unfold mendI
 rw [zi]
 refine ⟨by rw [List.length_set];exact h1,by rw [List.length_set];exact h2,h3,h4,fun r hr'=>?_⟩
 rcases List.mem_or_eq_of_mem_set hr' with h | h
 ·exact h5 r h
 ·rw [h,putI_len]
  exact ⟨hr.1,(putI_ok hrok hfx.1).2.2⟩
theorem fixR_shaped {W:Nat} {R:List (List Int)} (h:shapedI W R):shapedI W (fixR R):=by
 have hw:=h.wide
 unfold fixR
 rw [hw]
 rcases lookI_cases W R with ⟨e,_⟩ | ⟨e,_⟩ | ⟨i,j,e,hi,hj,_⟩
 ·rw [e,if_neg (by decide)];exact h
 ·rw [e,if_neg (by decide)];exact h
 ·rw [e,if_pos rfl];exact mendI_shaped h hi hj
theorem nums_bytes {W:Nat} {R:List (List Int)} (h:shapedI W R):numsB (R.map bytesOf)=R:=by
 unfold numsB
 rw [List.map_map]
 have:R.map (numsOf ∘ bytesOf)=R.map id:=List.map_congr_left fun r hr=>numsOf_bytesOf fun v hv=>by
  have:=okI_iff.1 (List.all_eq_true.1 (h.2.2.2.2 r hr).2 v hv)
  omega
 rw [this,List.map_id]
theorem shaped_of_nums {W:Nat} {l:List (List UInt8)} (h:shapedI W (numsB l)):shaped W l:=by
 obtain ⟨h1,h2,h3,h4,h5⟩:=h
 rw [List.length_map] at h1 h2
 refine ⟨h1,h2,h3,h4,fun r hr=>?_⟩
 have:=h5 (numsOf r) (List.mem_map_of_mem hr)
 rw [numsOf_len,numsOf_okI] at this
 exact this
theorem shaped.wide {W:Nat} {l:List (List UInt8)} (h:shaped W l):wideL l=W:=by
 have h0:0<l.length:=by have:=h.1;omega
 unfold wideL
 rw [List.getD_eq_getElem?_getD,List.getElem?_eq_getElem h0]
 exact (h.2.2.2.2 _ (List.getElem_mem h0)).1
theorem fixS_nums {W:Nat} {l:List (List UInt8)} (h:shaped W l):numsB (fixS l)=fixR (numsB l):=nums_bytes (fixR_shaped h.nums)
theorem fixS_shaped {W:Nat} {l:List (List UInt8)} (h:shaped W l):shaped W (fixS l):=shaped_of_nums (by rw [fixS_nums h];exact fixR_shaped h.nums)
theorem bytes_nums (l:List (List UInt8)):(numsB l).map bytesOf=l:=by
 unfold numsB
 rw [List.map_map]
 have:l.map (bytesOf ∘ numsOf)=l.map id:=List.map_congr_left fun r _=>bytesOf_numsOf r
 rw [this,List.map_id]
theorem fixS_whole {l:List (List UInt8)} (h:(lookI (wideI (numsB l)) (numsB l)).1≠1):fixS l=l:=by
 unfold fixS fixR
 rw [if_neg h,bytes_nums]
theorem getD_out {out:List (List Hd)} {i:Nat} (h:i<out.length):out.getD i []∈out:=by
 rw [List.getD_eq_getElem?_getD,List.getElem?_eq_getElem h]
 exact List.getElem_mem h
theorem PoolB.row {m out O} (h:PoolB m out O) {i:Nat} (hi:i<out.length):rowsH m (out.getD i [])=numsB (O.getD i []):=by
 have hd:=congrArg (fun l=>l.getD i []) h.dat
 have e:out.length=O.length:=by have:=congrArg List.length h.dat;simpa using this
 have hi2:i<O.length:=by omega
 simp only [List.getD_eq_getElem?_getD,List.getElem?_map,List.getElem?_eq_getElem hi,List.getElem?_eq_getElem hi2,Option.map_some,Option.getD_some] at hd ⊢
 exact hd
theorem PoolB.len {m out O} (h:PoolB m out O):out.length=O.length:=by have:=congrArg List.length h.dat;simpa using this
theorem flat_ids {out:List (List Hd)}:∀ (_:(out.flatten.map (·.1)).Nodup),(∀ b∈out,(b.map (·.1)).Nodup)∧∀ i j,i<out.length→j<out.length→i≠j→∀ id∈(out.getD i []).map (·.1),id ∉ (out.getD j []).map (·.1):=by
 induction out with
 | nil=>intro _;exact ⟨by simp,fun i j h=>by cases h⟩
 | cons b out ih=>
  intro h
  rw [List.flatten_cons,List.map_append,List.nodup_append] at h
  obtain ⟨h1,h2,h3⟩:=h
  obtain ⟨k1,k2⟩:=ih h2
  have hin:∀ j,j<out.length→∀ id∈(out.getD j []).map (·.1),id∈out.flatten.map (·.1):=fun j hj id hid=>by
   obtain ⟨p,hp,rfl⟩:=List.mem_map.1 hid
   exact List.mem_map_of_mem (f:=(·.1)) (List.mem_flatten.2 ⟨_,getD_out hj,hp⟩)
  refine ⟨fun c hc=>?_,fun i j hi hj hij id hid=>?_⟩
  ·rcases List.mem_cons.1 hc with rfl | hc
   ·exact h1
   ·exact k1 c hc
  ·cases i with
   | zero=>
    cases j with
    | zero=>exact absurd rfl hij
    | succ j=>exact fun hx=>h3 id hid id (hin j (by simpa using hj) id hx) rfl
   | succ i=>
    cases j with
    | zero=>exact fun hx=>h3 id hx id (hin i (by simpa using hi) id hid) rfl
    | succ j=>exact k2 i j (by simpa using hi) (by simpa using hj) (by omega) id hid
theorem PoolB.look {m out O} (h:PoolB m out O) {i W:Nat} (hi:i<out.length) (hs:shaped W (O.getD i [])) :
  preLook (out.getD i [],m,())∧lookV (out.getD i [],m,())=lookS (O.getD i [])∧PoolB (poolL (out.getD i [],m,())) out (O.set i (fixS (O.getD i [])))∧∀ id,id ∉ (out.getD i []).map (·.1)→prow (poolL (out.getD i [],m,())) id=prow m id:=by
 have hrow:=h.row hi
 have hsI:=hs.nums
 have hwI:=hsI.wide
 have hwL:=hs.wide
 obtain ⟨f1,f2⟩:=flat_ids h.ids
 have hb:=getD_out hi
 have hol:=h.len
 have hlV:lookV (out.getD i [],m,())=lookS (O.getD i []):=by
  show lookI (wideI (rowsH m (out.getD i []))) (rowsH m (out.getD i []))=lookI (wideL (O.getD i [])) (numsB (O.getD i []))
  rw [hrow,hwI,hwL]
 have hpre:preLook (out.getD i [],m,()):=⟨h.nd,h.ok _ hb,f1 _ hb,W,by show shapedI W (rowsH m (out.getD i []));rw [hrow];exact hsI⟩
 have hfx:fixR (numsB (O.getD i []))=if (lookS (O.getD i [])).1=1 then mendI (numsB (O.getD i [])) (lookS (O.getD i [])).2.1 (lookS (O.getD i [])).2.2 else numsB (O.getD i []):=by
  unfold fixR lookS
  rw [hwI,hwL]
 have hself:∀ (d:List (List (List Int))),d.set i (d.getD i [])=d:=fun d=>by
  by_cases hd:i<d.length
  ·rw [List.getD_eq_getElem?_getD,List.getElem?_eq_getElem hd];simp
  ·rw [List.set_eq_of_length_le (by omega)]
 have key:∀ m':Pool,(m'.map (·.1)).Nodup→(∀ b∈out,∀ k∈b,hOk m' k)→rowsH m' (out.getD i [])=fixR (numsB (O.getD i []))→(∀ j,j<out.length→j≠i→rowsH m' (out.getD j [])=rowsH m (out.getD j []))→PoolB m' out (O.set i (fixS (O.getD i []))):=fun m' n1 n2 n3 n4=>by
  refine ⟨n1,n2,h.ids,?_⟩
  refine List.ext_getElem (by simp [hol]) fun j h1 h2=>?_
  have hj:j<out.length:=by simpa using h1
  have hjO:j<O.length:=by omega
  have eo:out[j]=out.getD j []:=by rw [List.getD_eq_getElem?_getD,List.getElem?_eq_getElem hj];rfl
  have eO:O[j]=O.getD j []:=by rw [List.getD_eq_getElem?_getD,List.getElem?_eq_getElem hjO];rfl
  rw [List.getElem_map,List.getElem_map,List.getElem_set,eo]
  by_cases e:i=j
  ·subst e
   rw [if_pos rfl,n3]
   exact (fixS_nums hs).symm
  ·rw [if_neg e,eO,n4 j hj fun k=>e k.symm,h.row hj]
 refine ⟨hpre,hlV,?_⟩
 unfold poolL
 rw [hlV]
 dsimp only
 rw [hrow]
 unfold lookS at hfx ⊢
 rcases lookI_cases (wideL (O.getD i [])) (numsB (O.getD i [])) with ⟨e,_⟩ | ⟨e,_⟩ | ⟨r,a,e,hr,ha,_,_,_⟩
 ·rw [e] at hfx ⊢
  rw [if_neg (by decide)] at hfx ⊢
  exact ⟨key m h.nd h.ok (by rw [hrow,hfx]) fun j _ _=>rfl,fun _ _=>rfl⟩
 ·rw [e] at hfx ⊢
  rw [if_neg (by decide)] at hfx ⊢
  exact ⟨key m h.nd h.ok (by rw [hrow,hfx]) fun j _ _=>rfl,fun _ _=>rfl⟩
 ·rw [e] at hfx ⊢
  rw [if_pos rfl] at hfx ⊢
  have zr:((r:Int)).toNat=r:=rfl
  have za:((a:Int)).toNat=a:=rfl
  dsimp only at hfx ⊢
  rw [zr,za]
  have hrl:r<(out.getD i []).length:=by rw [←rowsH_len m,hrow];exact hr
  have hmem:=getD_memH hrl
  refine ⟨key _ (by rw [keys_pset];exact h.nd) (fun b hb k hk=>hOk_pset (h.ok b hb k hk) _ _ _) ?_ ?_,?_⟩
  ·rw [rowsH_pset (f1 _ hb) hrl,hrow,hfx]
   unfold mendI putI
   rw [zr,za]
  ·intro j hj hji
   refine rowsH_pset_other (f2 i j hi hj (fun k=>hji k.symm) _ (List.mem_map_of_mem (f:=(·.1)) hmem)) _ _
  ·intro id hid
   refine prow_pset_other _ _ _ _ _ fun e=>hid ?_
   rw [e]
   exact List.mem_map_of_mem (f:=(·.1)) hmem
end Go.Fer
namespace Go.Fer
open M (Step)
set_option linter.unusedVariables false
set_option linter.unusedSimpArgs false
theorem blk_row (O:List (List (List UInt8))) (rest:List UInt8):∀ (r cur:List UInt8) (L:List (List UInt8)),r.all okB=true→cur++r≠[]→blkG (r++10::rest) (cur,O,L)=blkG rest ([],O,L++[cur++r])
 | [],cur,L,_,h=>by
  rw [List.append_nil] at h ⊢
  rw [List.nil_append,blkG_cons,blkF_end h]
 | b::r,cur,L,ha,h=>by
  simp only [List.all_cons,Bool.and_eq_true] at ha
  have hb:b≠10:=fun e=>by rw [e] at ha;exact absurd ha.1 (by decide)
  rw [List.cons_append,blkG_cons,blkF_byte hb]
  have:=blk_row O rest r (cur++[b]) L ha.2 (by simp)
  rw [List.append_assoc] at this
  exact this
theorem blk_rows (O:List (List (List UInt8))) (rest:List UInt8):∀ (l L:List (List UInt8)),(∀ r∈l,r≠[]∧r.all okB=true)→blkG (linesS l++rest) ([],O,L)=blkG rest ([],O,L++l)
 | [],L,_=>by simp [linesS]
 | r::l,L,h=>by
  obtain ⟨h1,h2⟩:=h r (by simp)
  have ih:=blk_rows O rest l (L++[r]) fun r hr=>h r (List.mem_cons_of_mem _ hr)
  have e:linesS (r::l)++rest=r++10::(linesS l++rest):=by unfold linesS;simp
  rw [e,blk_row O (linesS l++rest) r [] L h2 (by simpa using h1)]
  refine Eq.trans ih ?_
  simp
theorem isBlock_shaped {l:List (List UInt8)} {W:Nat} (h:shaped W l):isBlockV l=true:=by
 have hw:=h.wide
 obtain ⟨h1,h2,h3,h4,h5⟩:=h
 unfold isBlockV
 rw [decide_eq_true h1,decide_eq_true h2,Bool.true_and,Bool.true_and,List.all_eq_true]
 intro r hr
 obtain ⟨k1,k2⟩:=h5 r hr
 rw [Bool.not_eq_true',←Bool.not_eq_true,lineBad_iff]
 rintro (k | k | k | k)
 ·exact k (k1.trans hw.symm)
 ·omega
 ·omega
 ·rw [k2] at k;cases k
theorem blk_text {l:List (List UInt8)} {W:Nat} (h:shaped W l) (O:List (List (List UInt8))) (rest:List UInt8):blkG (textS l++rest) ([],O,[])=blkG rest ([],O++[l],[]):=by
 have e:textS l++rest=linesS l++10::rest:=by unfold textS;simp
 rw [e,blk_rows O (10::rest) l [] fun r hr=>⟨fun k=>by have:=(h.2.2.2.2 r hr).1;have:=h.2.2.1;rw [k] at *;simp at *;omega,(h.2.2.2.2 r hr).2⟩,List.nil_append,blkG_cons,blkF_block,if_pos (isBlock_shaped h)]
theorem blk_file:∀ (B O:List (List (List UInt8))),(∀ l∈B,shaped (wideL l) l)→blkE (blkG (B.flatMap textS) ([],O,[]))=(true,O++B)
 | [],O,_=>by
  rw [List.append_nil]
  rfl
 | l::B,O,h=>by
  rw [List.flatMap_cons,blk_text (h l (by simp)),blk_file B (O++[l]) fun l' hl=>h l' (List.mem_cons_of_mem _ hl)]
  simp
theorem blocks_file {B:List (List (List UInt8))} (h:∀ l∈B,shaped (wideL l) l):blocksV (B.flatMap textS)=(true,B):=by
 have:=blk_file B [] h
 rw [List.nil_append] at this
 exact this
theorem take_pad {w:Nat} {t:List UInt8} (h:t.length≤w) (h60:w≤60):takeT (rowS w t)=some t:=by
 have hl:(rowS w t).length=w+2:=by unfold rowS padS;simp;omega
 have h0:(rowS w t).getD 0 0=wrB (t.length:Int):=by unfold rowS padS;simp
 have hn:=wrB_nat (n:=(t.length:Int)) (by omega) (by omega)
 unfold takeT
 rw [hl,h0,hn,if_neg (by omega)]
 congr 1
 have e:(1+((t.length:Int)+32 - 32)).toNat=1+t.length:=by omega
 rw [e,Nat.add_comm]
 unfold rowS padS
 simp
theorem blockS_shaped {x:List (List UInt8)} (h:∀ t∈x,textOk t) (h1:1≤x.length) (h8:x.length≤8):shaped (wideS x+2) (blockS x):=by
 have hw:=wideS_60 h
 have hl:=blockS_len x
 exact ⟨by omega,by omega,by omega,by omega,fun r hr=>blockS_rows h r hr⟩
theorem blockS_take (x:List (List UInt8)):(blockS x).take ((blockS x).length - 1)=x.map (rowS (wideS x)):=by
 have e:(blockS x).length - 1=(x.map (rowS (wideS x))).length:=by rw [blockS_len,List.length_map];rfl
 rw [e]
 unfold blockS
 rw [List.take_left]
theorem fileS_eq (l:List (List UInt8)):fileS l=((chunks l).map blockS).flatMap textS:=by
 unfold fileS
 rw [List.flatMap_map]
theorem chunks_shaped {l:List (List UInt8)} (h:∀ t∈l,textOk t):∀ b∈(chunks l).map blockS,shaped (wideL b) b:=fun b hb=>by
 obtain ⟨c,hc,rfl⟩:=List.mem_map.1 hb
 obtain ⟨c1,c2,c3⟩:=chunks_mem h c hc
 have:=blockS_shaped c3 c2 c1
 rw [this.wide]
 exact this
theorem blocks_written {l:List (List UInt8)} (h:∀ t∈l,textOk t):blocksV (fileS l)=(true,(chunks l).map blockS):=by
 rw [fileS_eq]
 exact blocks_file (chunks_shaped h)
theorem wideS_all {x:List (List UInt8)} (h:∀ t∈x,textOk t):∀ t∈x,t.length≤wideS x:=(wideS_le x 0 (fun t ht=>(h t ht).1) (by omega)).2.2
theorem writeS_ok {l:List (List UInt8)} (h:∀ t∈l,textOk t) (h40:l.length≤40):writeS l=(fileS l,0):=by
 unfold writeS
 rw [if_neg (by omega),if_neg]
 intro k
 obtain ⟨t,ht,hb⟩:=List.any_eq_true.1 k
 rw [badT_no.2 (h t ht)] at hb
 cases hb
theorem writeS_zero {l:List (List UInt8)} (h:(writeS l).2=0):(∀ t∈l,textOk t)∧l.length≤40∧writeS l=(fileS l,0):=by
 unfold writeS at h
 by_cases h1:l.length > 40
 ·rw [if_pos h1] at h;exact absurd h (by decide)
 ·rw [if_neg h1] at h
  by_cases h2:l.any badT=true
  ·rw [if_pos h2] at h;exact absurd h (by decide)
  ·have hok:∀ t∈l,textOk t:=fun t ht=>badT_no.1 (by
    cases hq:badT t with
    | false=>rfl
    | true=>exact absurd (List.any_eq_true.2 ⟨t,ht,hq⟩) h2)
   exact ⟨hok,by omega,writeS_ok hok (by omega)⟩
def lineS (r:List UInt8):List UInt8:=lineI (numsOf r)
def minsS (l:List (List UInt8)):List (List UInt8):=(l.take (l.length - 1)).map lineS
def unpackS (O:List (List (List UInt8))):List (List UInt8)×Bool:=(O.flatMap minsS,decide ((writeS (O.flatMap minsS)).2=0)&&decide ((writeS (O.flatMap minsS)).1=O.flatMap textS))
theorem lineS_take {r t:List UInt8} (h:takeT r=some t):lineS r=t:=by
 unfold takeT at h
 have e0:(numsOf r).getD 0 0=((r.getD 0 0).toNat:Int):=numsOf_get r 0
 by_cases hc:((r.getD 0 0).toNat:Int) - 32 > (r.length:Int) - 2
 ·rw [if_pos hc] at h;cases h
 ·rw [if_neg hc] at h
  cases h
  unfold lineS lineI longI
  rw [e0,numsOf_len,←numsOf_take]
  have e:min (((r.getD 0 0).toNat:Int) - 32) ((r.length:Int) - 2)=((r.getD 0 0).toNat:Int) - 32:=by omega
  rw [e]
  have e2:∀ s:List UInt8,(numsOf s).drop 1=numsOf (s.drop 1):=fun s=>by unfold numsOf;rw [List.map_drop]
  rw [e2,bytesOf_numsOf]
theorem innerT_all:∀ (l o:List (List UInt8)),(∀ r∈l,takeT r≠none)→innerT l o=some (o++l.map lineS)
 | [],o,_=>by simp [innerT]
 | r::l,o,h=>by
  have hr:=h r (by simp)
  unfold innerT
  cases hq:takeT r with
  | none=>exact absurd hq hr
  | some t=>
   dsimp only
   rw [innerT_all l _ fun r hr=>h r (List.mem_cons_of_mem _ hr),List.map_cons,lineS_take hq]
   simp
theorem innerT_bad:∀ (l o:List (List UInt8)),(∃ r∈l,takeT r=none)→innerT l o=none
 | [],o,h=>by simp at h
 | r::l,o,h=>by
  unfold innerT
  cases hq:takeT r with
  | none=>rfl
  | some t=>
   obtain ⟨r',hr',h'⟩:=h
   rcases List.mem_cons.1 hr' with rfl | hr'
   ·rw [hq] at h';cases h'
   ·exact innerT_bad l _ ⟨r',hr',h'⟩
theorem outerT_all:∀ (O:List (List (List UInt8))) (s:List UInt8×List (List UInt8)),(∀ l∈O,∀ r∈l.take (l.length - 1),takeT r≠none)→outerT O s=some (s.1++O.flatMap textS,s.2++O.flatMap minsS)
 | [],s,_=>by simp [outerT]
 | l::O,s,h=>by
  unfold outerT
  rw [innerT_all _ _ (h l (by simp))]
  dsimp only
  rw [outerT_all O _ fun l hl=>h l (List.mem_cons_of_mem _ hl)]
  simp [minsS]
theorem outerT_bad:∀ (O:List (List (List UInt8))) (s:List UInt8×List (List UInt8)),(∃ l∈O,∃ r∈l.take (l.length - 1),takeT r=none)→outerT O s=none
 | [],s,h=>by simp at h
 | l::O,s,h=>by
  unfold outerT
  cases hq:innerT (l.take (l.length - 1)) s.2 with
  | none=>rfl
  | some o=>
   obtain ⟨l',hl',h'⟩:=h
   rcases List.mem_cons.1 hl' with rfl | hl'
   ·rw [innerT_bad _ _ h'] at hq;cases hq
   ·exact outerT_bad O _ ⟨l',hl',h'⟩
theorem unpackS_eq {O:List (List (List UInt8))} (h:∀ l∈O,shaped (wideL l) l):(unpackS O).2=(textsV O).2∧((textsV O).2=true→(unpackS O).1=(textsV O).1):=by
 by_cases hb:∃ l∈O,∃ r∈l.take (l.length - 1),takeT r=none
 ·have e:textsV O=([],false):=by unfold textsV;rw [outerT_bad O _ hb]
  rw [e]
  refine ⟨?_,fun k=>by cases k⟩
  cases hu:(unpackS O).2 with
  | false=>rfl
  | true=>
   unfold unpackS at hu
   simp only [Bool.and_eq_true,decide_eq_true_eq] at hu
   obtain ⟨hok,h40,hw⟩:=writeS_zero hu.1
   rw [hw] at hu
   have h2:fileS (O.flatMap minsS)=O.flatMap textS:=hu.2
   have b1:=blocks_written hok
   rw [h2,blocks_file h] at b1
   have hO:O=(chunks (O.flatMap minsS)).map blockS:=(Prod.mk.inj b1).2
   obtain ⟨l,hl,r,hr,hn⟩:=hb
   rw [hO] at hl
   obtain ⟨c,hc,rfl⟩:=List.mem_map.1 hl
   have hc3:=(chunks_mem hok c hc).2.2
   rw [blockS_take] at hr
   obtain ⟨t,ht,rfl⟩:=List.mem_map.1 hr
   rw [take_pad (wideS_all hc3 t ht) (wideS_60 hc3)] at hn
   cases hn
 ·have ha:∀ l∈O,∀ r∈l.take (l.length - 1),takeT r≠none:=fun l hl r hr k=>hb ⟨l,hl,r,hr,k⟩
  have e:textsV O=unpackS O:=by
   unfold textsV
   rw [outerT_all O _ ha]
   simp [unpackS]
  rw [e]
  exact ⟨rfl,fun _=>rfl⟩
abbrev fcUnpack:FC:=⟨.slice (.slice (.slice (.int .u8))),.prod (.slice .str) .bool,fun x=>List.length x<65536∧∀ l∈(x:List (List (List Int))),shapedI (wideI l) l,fun x=>unpackS (List.map (List.map bytesOf) (x:List (List (List Int))))⟩
theorem minsS_len (l:List (List UInt8)):(minsS l).length=l.length - 1:=by unfold minsS;simp
theorem sUnpack (x):M.le (S_files_unpack fcWriteP.sh fcText.sh shWStr shBStr fcTexts.sh x) (fcUnpack.sh x):=M.le_det fun h=>by
 change List (List (List Int)) at x
 obtain ⟨h1,h2⟩:x.length<65536∧∀ l∈x,shapedI (wideI l) l:=h
 obtain ⟨O,hO⟩:∃ O:List (List (List UInt8)),O=x.map (List.map bytesOf):=⟨_,rfl⟩
 have hx:x=O.map numsB:=by
  rw [hO,List.map_map]
  have:x.map (numsB ∘ List.map bytesOf)=x.map id:=List.map_congr_left fun l hl=>nums_bytes (h2 l hl)
  rw [this,List.map_id]
 have hsh:∀ l∈O,shaped (wideL l) l:=fun l hl=>by
  have:=h2 (numsB l) (by rw [hx];exact List.mem_map_of_mem hl)
  have:=shaped_of_nums this
  rw [this.wide]
  exact this
 have hg:fcUnpack.g x=unpackS O:=by show unpackS (x.map (List.map bytesOf))=_;rw [←hO]
 rw [hg]
 subst hx
 rw [List.length_map] at h1
 clear hO hg h2
 unfold S_files_unpack
 rw [M.bind_pure,M.go_next]
 dsimp only
 rw [M.loop_list O (fun i (s:List (List UInt8)×List Int)=>(O.map numsB,(O.length:Int),(i:Int),s.1,s.2,())) (fun l s=>.next (s.1++minsS l,s.2++numsOf (textS l))) (fun s=>.next (s.1,s.2,())) (fun i s=>s.1.length≤8*i∧s.2.length≤600*i) ([],[]) ?_ ?_ ?_ ?_]
 ·rw [foldS_next,M.bind_pure,M.go_next]
  dsimp only
  have e:∀ (l:List (List (List UInt8))) (s:List (List UInt8)×List Int),l.foldl (fun s l=>(s.1++minsS l,s.2++numsOf (textS l))) s=(s.1++l.flatMap minsS,s.2++numsOf (l.flatMap textS)):=by
   intro l
   induction l with
   | nil=>intro s;simp [numsOf]
   | cons b l ih=>intro s;rw [List.foldl_cons,ih];simp [numsOf]
  rw [e]
  dsimp only
  rw [List.nil_append,List.nil_append]
  have hml:∀ l:List (List (List UInt8)),(∀ b∈l,shaped (wideL b) b)→(l.flatMap minsS).length≤8*l.length:=by
   intro l
   induction l with
   | nil=>intro _;simp
   | cons b l ih=>
    intro hb
    have:=ih fun b' h'=>hb b' (List.mem_cons_of_mem _ h')
    have hbl:=(hb b (by simp)).2.1
    rw [List.flatMap_cons,List.length_append,minsS_len,List.length_cons]
    omega
  have hml:=hml O hsh
  rw [show fcWriteP.sh (O.flatMap minsS)=M.pure (writeS (O.flatMap minsS)) from (M.det_true (show (O.flatMap minsS).length<2 ^ 63 from by omega) _).trans (by rw [←writeS_eq]),M.bind_pure]
  unfold unpackS
  by_cases hz:(writeS (O.flatMap minsS)).2=0
  ·rw [if_pos (decide_eq_true hz),M.req_True,show shBStr (numsOf (O.flatMap textS),())=M.pure (O.flatMap textS,()) from by unfold shBStr;rw [bytesOf_numsOf],M.bind_pure,M.req_true (fun e=>⟨⟨e,trivial⟩,trivial,trivial⟩)]
  ·rw [if_neg (by rw [decide_eq_true_iff];exact hz),M.req_true (fun e=>absurd (of_decide_eq_true e) hz),decide_eq_false hz]
   rfl
 ·simp [ofNat_def]
 ·exact ⟨Nat.le_refl _,Nat.le_refl _⟩
 ·intro i hi s hs
  obtain ⟨ts,own⟩:=s
  obtain ⟨s1,s2⟩:ts.length≤8*i∧own.length≤600*i:=hs
  have hw:=wrap64 (n:=(i:Int)+1) (by omega) (by omega)
  have hl:=hsh _ (List.getElem_mem hi)
  have hlI:=hl.nums
  have htl:=shaped_text hl
  have hgi:(O.map numsB).getD i []=numsB O[i]:=by rw [List.getD_eq_getElem?_getD,List.getElem?_map,List.getElem?_eq_getElem hi];rfl
  have hzi:((i:Int)).toNat=i:=rfl
  have hlen:=hl.2.1
  have h22:=hl.1
  have ht:fcTexts.sh (numsB O[i])=M.pure (minsS O[i]):=(M.det_true (show (1≤(numsB O[i]).length∧(numsB O[i]).length<65536)∧∀ r∈numsB O[i],rowOk r from ⟨⟨by rw [List.length_map];omega,by rw [List.length_map];omega⟩,fun r hr=>hlI.row hr⟩) _).trans (by
   show M.pure (((numsB O[i]).take ((numsB O[i]).length - 1)).map lineI)=_
   unfold minsS
   rw [List.length_map,←List.map_take,List.map_map]
   rfl)
  have hx:fcText.sh (numsB O[i])=M.pure (textS O[i]):=(M.det_true (show (numsB O[i]).length<65536∧∀ r∈numsB O[i],r.length<65535 from ⟨by rw [List.length_map];omega,fun r hr=>(hlI.row hr).2.1⟩) _).trans (by
   show M.pure (bytesOf (textI (numsB O[i])))=_
   rw [←textS_nums,bytesOf_numsOf])
  refine ⟨?_,fun s' hs'=>?_⟩
  ·simp only [lt_len hi,if_true,hzi,ofNat_def,List.length_map,in_len hi,M.req_True,add_def,add_defN,hw,hgi,ht,hx,M.bind_pure]
   have hml:=minsS_len O[i]
   rw [M.req_true (by unfold lenLe;omega),show shWStr (textS O[i],own,())=M.pure (((textS O[i]).length:Int),own++numsOf (textS O[i]),()) from M.det_true (by show lenLe (own.length+(textS O[i]).length);unfold lenLe;omega) _,M.bind_pure]
   rfl
  ·simp only [Step.next.injEq] at hs'
   subst hs'
   have hml:=minsS_len O[i]
   exact ⟨by show (ts++minsS O[i]).length≤_;rw [List.length_append];omega,by show (own++numsOf (textS O[i])).length≤_;rw [List.length_append,numsOf_len];omega⟩
 ·intro s hs
  simp
end Go.Fer
namespace Go.Fer
open M (Step)
set_option linter.unusedVariables false
set_option linter.unusedSimpArgs false
section
variable {α:Type}
def mix (f:α→α) (B:List α) (i:Nat):List α:=(B.take i).map f++B.drop i
theorem mix_get {f:α→α} {B:List α} {i:Nat} {d:α} (h:i<B.length):(mix f B i).getD i d=B[i]:=by
 unfold mix
 rw [List.getD_eq_getElem?_getD,List.getElem?_append_right (by simp;omega)]
 simp only [List.length_map,List.length_take,List.getElem?_drop]
 have:i+(i - min i B.length)=i:=by omega
 rw [this,List.getElem?_eq_getElem h]
 rfl
theorem mix_set {f:α→α} {B:List α} {i:Nat} (h:i<B.length):(mix f B i).set i (f B[i])=mix f B (i+1):=by
 unfold mix
 rw [List.drop_eq_getElem_cons h,List.set_append_right _ _ (by simp;omega),List.take_add_one,List.getElem?_eq_getElem h]
 have:i - ((B.take i).map f).length=0:=by simp;omega
 rw [this]
 simp only [List.set_cons_zero,List.map_append,Option.toList,List.map_cons,List.map_nil,List.append_assoc,List.cons_append,List.nil_append]
theorem mix_all {f:α→α} {B:List α}:mix f B B.length=B.map f:=by unfold mix;simp
end
theorem deref_blocks {m:Pool} {out O} (h:PoolB m out O):RawOk (.int .u8) m (.slice (.slice (.raws (.int .u8)))) out∧deref (.int .u8) m (.slice (.slice (.raws (.int .u8)))) out=O.map numsB:=by
 refine ⟨fun b hb=>(deref_rows (h.ok b hb)).1,?_⟩
 rw [←h.dat]
 show out.map (deref (.int .u8) m (.slice (.raws (.int .u8))))=_
 exact List.map_congr_left fun b hb=>(deref_rows (h.ok b hb)).2
theorem sum_map_le {α:Type} {f:α→Nat} {c:Nat}:∀ (l:List α),(∀ x∈l,f x≤c)→(l.map f).sum≤c*l.length
 | [],_=>Nat.zero_le _
 | x::l,h=>by
  have:=sum_map_le l fun y hy=>h y (List.mem_cons_of_mem _ hy)
  have:=h x (by simp)
  simp only [List.map_cons,List.sum_cons,List.length_cons,Nat.mul_add,Nat.mul_one]
  omega
theorem linesS_shaped:∀ {W:Nat} (l:List (List UInt8)),(∀ r∈l,r.length=W)→(linesS l).length=l.length*(W+1)
 | W,[],_=>by simp [linesS]
 | W,r::l,h=>by
  have ih:=linesS_shaped l fun r hr=>h r (List.mem_cons_of_mem _ hr)
  have hr:=h r (by simp)
  unfold linesS at ih ⊢
  simp only [List.flatMap_cons,List.length_append,ih,List.length_cons,List.length_nil,hr,Nat.add_mul,Nat.one_mul]
  omega
theorem textS_shaped {W:Nat} {l:List (List UInt8)} (h:shaped W l):(textS l).length=l.length*(W+1)+1:=by
 unfold textS
 rw [List.length_append,linesS_shaped l fun r hr=>(h.2.2.2.2 r hr).1]
 rfl
theorem fixS_len {W:Nat} {l:List (List UInt8)} (h:shaped W l):(fixS l).length=l.length:=by
 have h1:(numsB (fixS l)).length=(fixR (numsB l)).length:=by rw [fixS_nums h]
 rw [List.length_map] at h1
 rw [h1]
 unfold fixR
 split
 ·unfold mendI;simp
 ·simp
def lostS (l:List (List UInt8)):Bool:=decide ((lookS l).1=2)
def placeS (n:Nat) (l:List (List UInt8)):Int:=if (lookS l).1=1 then (n:Int)+(lookS l).2.1*((wideL l:Int)+1)+(lookS l).2.2 else -1
def fromAt (B:List (List (List UInt8))) (i:Nat):Nat:=((B.take i).map fun l=>(textS l).length).sum
def placesV (B:List (List (List UInt8))):List Int:=(List.range B.length).map fun k=>placeS (fromAt B k) (B.getD k [])
def readV (f:List UInt8):List (List UInt8)×List Int×Int:=
 if (blocksV f).1=false then ([],[],140)
 else if (blocksV f).2.any lostS=true then ([],[],141)
 else if (textsV ((blocksV f).2.map fixS)).2=false then ([],[],142)
 else ((textsV ((blocksV f).2.map fixS)).1,placesV (blocksV f).2,0)
theorem fromAt_le {B:List (List (List UInt8))} (h:∀ l∈B,shaped (wideL l) l) (i:Nat):fromAt B i≤600*i:=by
 unfold fromAt
 have:=sum_map_le (f:=fun l=>(textS l).length) (c:=600) (B.take i) fun l hl=>shaped_text (h l (List.mem_of_mem_take hl))
 have h2:(B.take i).length≤i:=by simp;omega
 have h3:600*(B.take i).length≤600*i:=Nat.mul_le_mul_left _ h2
 omega
theorem fromAt_succ {B:List (List (List UInt8))} {i:Nat} (h:i<B.length):fromAt B (i+1)=fromAt B i+(textS B[i]).length:=by
 unfold fromAt
 rw [List.take_add_one,List.getElem?_eq_getElem h]
 simp only [Option.toList,List.map_append,List.map_cons,List.map_nil,List.sum_append,List.sum_cons,List.sum_nil,Nat.add_zero]
theorem blocks_shaped (f:List UInt8):∀ l∈(blocksV f).2,shaped (wideL l) l:=fun l hl=>shaped_of ((blocksV_out f).1 l hl)
abbrev fcRead:FC:=⟨.str,.prod (.slice .str) (.prod (.slice (.int .i64)) (.int .i64)),fun x=>List.length x<65536,fun x=>readV x⟩
theorem sRead (x):M.le (S_files_read shCut shLook fcText.pre fcText.g fcUnpack.pre fcUnpack.g x) (fcRead.sh x):=M.le_detR fun h=>by
 change List UInt8 at x
 generalize x=f at h ⊢
 change f.length<65536 at h
 unfold S_files_read
 show M.Ret _ fun y=>y=readV f
 unfold readV
 rw [M.ret_bind]
 refine ⟨⟨h,by simp⟩,?_⟩
 rintro ⟨okc,out,m,u⟩ ⟨p1,p2,_⟩
 change okc=(blocksV f).1 at p1
 change PoolB m out (if (blocksV f).1=true then (blocksV f).2 else []) at p2
 subst p1
 have hbl:=(blocksV_out f).2
 have hsh:=blocks_shaped f
 dsimp only
 cases hB:(blocksV f).1 with
 | false=>exact M.ret_pure.2 rfl
 | true=>
  rw [hB,if_pos rfl] at p2
  generalize (blocksV f).2=B at p2 hbl hsh
  have hol:=p2.len
  rw [if_neg (by decide),if_neg (by decide),M.ret_bind]
  refine M.ret_loopN B.length (fun i s=>s.1=(fromAt B i:Int)∧s.2.1=(B.length:Int)∧s.2.2.1=(i:Int)∧s.2.2.2.1=(List.range i).map (fun k=>placeS (fromAt B k) (B.getD k []))∧s.2.2.2.2.1=out∧PoolB s.2.2.2.2.2.1 out (mix fixS B i)∧∀ k,k<i→lostS (B.getD k [])=false) ⟨rfl,by rw [ofNat_def,hol],rfl,rfl,rfl,p2,fun k hk=>absurd hk (Nat.not_lt_zero k)⟩ ?_ ?_
  ·rintro i hi ⟨s1,s2,s3,s4,s5,m',u'⟩ ⟨e1,e2,e3,e4,e5,k1,k2⟩
   change s1=_ at e1
   change s2=_ at e2
   change s3=_ at e3
   change s4=_ at e4
   change s5=out at e5
   change PoolB m' out _ at k1
   change ∀ k,k<i→_ at k2
   subst e1 e2 e3 e5
   have hi2:i<s5.length:=by omega
   have hw:=wrap64 (n:=(i:Int)+1) (by omega) (by omega)
   have hzi:((i:Int)).toNat=i:=rfl
   have hl:=hsh _ (List.getElem_mem hi)
   have hgm:(mix fixS B i).getD i []=B[i]:=mix_get hi
   obtain ⟨q1,q2,q3,_⟩:=k1.look hi2 (W:=wideL B[i]) (by rw [hgm];exact hl)
   rw [hgm] at q2 q3
   rw [mix_set hi] at q3
   have hgB:B.getD i []=B[i]:=by rw [List.getD_eq_getElem?_getD,List.getElem?_eq_getElem hi];rfl
   have hlk:shLook (s5.getD i [],m',())=M.pure ((lookS B[i]).1,(lookS B[i]).2,poolL (s5.getD i [],m',()),()):=by
    unfold shLook
    rw [q2]
    exact M.det_true q1 _
   have hfr:=fromAt_le hsh i
   have htl:=shaped_text hl
   generalize hQ:poolL (s5.getD i [],m',())=Q at q3 hlk
   have hrowQ:=q3.row hi2
   have hbok:=q3.ok _ (getD_out hi2)
   obtain ⟨d1,d2⟩:=deref_rows hbok
   have hmg:(mix fixS B (i+1)).getD i []=fixS B[i]:=by
    rw [←mix_set hi,List.getD_eq_getElem?_getD,List.getElem?_set_self (by unfold mix;simp;omega)]
    rfl
   rw [hmg] at hrowQ
   rw [hrowQ] at d2
   have hfs:=fixS_shaped hl
   have hfl:=fixS_len hl
   have hpt:fcText.pre (numsB (fixS B[i])):=⟨by show (numsB (fixS B[i])).length<65536;rw [List.length_map,hfl];have:=hl.2.1;omega,fun r hr=>(hfs.nums.row hr).2.1⟩
   have hgt:bytesOf (textI (numsB (fixS B[i])))=textS (fixS B[i]):=by
    rw [←textS_nums,bytesOf_numsOf]
   have htl2:(textS (fixS B[i])).length=(textS B[i]).length:=by rw [textS_shaped hfs,textS_shaped hl,hfl]
   have hpl:s4.length=i:=by rw [e4];simp
   have hwf:=wrap64 (n:=(fromAt B i:Int)+((textS B[i]).length:Int)) (by omega) (by omega)
   simp only [ofNat_def,lt_len hi,if_true,hzi,Prod.q5]
   rw [M.ret_req]
   refine ⟨⟨by omega,by omega⟩,?_⟩
   erw [hlk]
   rw [M.bind_pure]
   dsimp only
   by_cases c2:(lookS B[i]).1=2
   ·rw [if_pos (decide_eq_true c2),M.bind_pure,M.bind_pure,M.bind_pure,M.bind_pure]
    refine M.ret_pure.2 ?_
    show M.Ret (M.pure (([],[],141):List (List UInt8)×List Int×Int)) _
    refine M.ret_pure.2 ?_
    rw [if_pos]
    exact List.any_eq_true.2 ⟨_,List.getElem_mem hi,decide_eq_true c2⟩
   ·rw [if_neg (by rw [decide_eq_true_iff];exact c2)]
    have hlost:∀ k,k<i+1→lostS (B.getD k [])=false:=fun k hk=>by
     by_cases e:k=i
     ·subst e
      rw [hgB]
      exact decide_eq_false c2
     ·exact k2 k (by omega)
    have hplc:∀ p,p=placeS (fromAt B i) B[i]→s4++[p]=(List.range (i+1)).map fun k=>placeS (fromAt B k) (B.getD k []):=fun p hp=>by
     rw [List.range_succ,List.map_append,←e4,hp,←hgB]
     rfl
    have hsucc:=fromAt_succ hi
    by_cases c1:(lookS B[i]).1=1
    ·rw [if_pos (decide_eq_true c1)]
     have hlc:∃ r a:Nat,lookS B[i]=(1,(r:Int),(a:Int))∧r<9∧a<62:=by
      rcases lookI_cases (wideL B[i]) (numsB B[i]) with ⟨e,_⟩ | ⟨e,_⟩ | ⟨r,a,e,hr,ha,_,_,_⟩
      ·unfold lookS at c1;rw [e] at c1;exact absurd c1 (by decide)
      ·unfold lookS at c1;rw [e] at c1;exact absurd c1 (by decide)
      ·rw [List.length_map] at hr
       have g1:=hl.2.1
       have g2:=hl.2.2.2.1
       refine ⟨r,a,e,?_,by omega⟩
       have hrlt:(r:Nat)<B[i].length:=hr
       rcases Nat.lt_or_ge r 9 with hh | hh
       ·exact hh
       ·omega
     obtain ⟨r,a,hra,hr9,ha62⟩:=hlc
     have hb0:0<(s5.getD i []).length:=by
      have:=congrArg List.length hrowQ
      rw [rowsH_len,List.length_map,hfl] at this
      have:=hl.1
      omega
     have hW:((s5.getD i []).getD 0 (0,0,0)).2.2=wideL B[i]:=by
      have hk:=k1.ok _ (getD_out hi2) _ (getD_memH hb0)
      rw [hk.2.2,←rowsH_get hb0,k1.row hi2,hgm,getD_nums,numsOf_len]
     have z:(0:Int).toNat=0:=rfl
     have hWl:=hl.2.2.2.1
     rw [M.req_true ⟨Int.le_refl _,by omega⟩,M.bind_pure,M.go_next]
     dsimp only
     rw [M.ret_req]
     refine ⟨by unfold lenLe;simp only [add_defN];omega,?_⟩
     rw [M.ret_req]
     refine ⟨⟨d1,by rw [d2];exact hpt⟩,M.ret_pure.2 ?_⟩
     rw [d2,hgt,hra,htl2,z,hW]
     dsimp only
     have w1:=wrap64 (n:=(wideL B[i]:Int)+1) (by omega) (by omega)
     have hrw:(r:Int)*((wideL B[i]:Int)+1)≤9*63:=Int.mul_le_mul (by omega) (by omega) (by omega) (by omega)
     have hrw0:0≤(r:Int)*((wideL B[i]:Int)+1):=Int.mul_nonneg (by omega) (by omega)
     have w2:=wrap64 (n:=(r:Int)*((wideL B[i]:Int)+1)) (by omega) (by omega)
     have w3:=wrap64 (n:=(fromAt B i:Int)+(r:Int)*((wideL B[i]:Int)+1)) (by omega) (by omega)
     have w4:=wrap64 (n:=(fromAt B i:Int)+(r:Int)*((wideL B[i]:Int)+1)+(a:Int)) (by omega) (by omega)
     simp only [add_def,w1,w2,w3,w4,hwf,hw]
     refine ⟨by show _=((fromAt B (i+1):Nat):Int);rw [hsucc];omega,trivial,by show (i:Int)+1=((i+1:Nat):Int);omega,hplc _ ?_,trivial,q3,hlost⟩
     unfold placeS
     rw [hra,if_pos rfl]
    ·rw [if_neg (by rw [decide_eq_true_iff];exact c1),M.bind_pure,M.go_next]
     dsimp only
     rw [M.ret_req]
     refine ⟨by unfold lenLe;simp only [add_defN];omega,?_⟩
     rw [M.ret_req]
     refine ⟨⟨d1,by rw [d2];exact hpt⟩,M.ret_pure.2 ?_⟩
     rw [d2,hgt,htl2]
     simp only [add_def,hwf,hw]
     refine ⟨by show _=((fromAt B (i+1):Nat):Int);rw [hsucc];omega,trivial,by show (i:Int)+1=((i+1:Nat):Int);omega,hplc _ ?_,trivial,q3,hlost⟩
     unfold placeS
     rw [if_neg c1]
  ·rintro ⟨s1,s2,s3,s4,s5,m',u'⟩ ⟨e1,e2,e3,e4,e5,k1,k2⟩
   change s1=_ at e1
   change s2=_ at e2
   change s3=_ at e3
   change s4=_ at e4
   change s5=out at e5
   change PoolB m' out _ at k1
   subst e1 e2 e3 e5
   rw [mix_all] at k1
   have hno:¬B.any lostS=true:=fun k=>by
    obtain ⟨l,hl,hx⟩:=List.any_eq_true.1 k
    obtain ⟨i,hi,rfl⟩:=List.mem_iff_getElem.1 hl
    have:=k2 i hi
    rw [List.getD_eq_getElem?_getD,List.getElem?_eq_getElem hi] at this
    have this:lostS B[i]=false:=this
    rw [hx] at this
    cases this
   obtain ⟨d1,d2⟩:=deref_blocks k1
   have hshF:∀ l∈B.map fixS,shaped (wideL l) l:=fun l hl=>by
    obtain ⟨b,hb,rfl⟩:=List.mem_map.1 hl
    have:=fixS_shaped (hsh b hb)
    rw [this.wide]
    exact this
   have hpu:fcUnpack.pre ((B.map fixS).map numsB):=⟨by show ((B.map fixS).map numsB).length<65536;simp;omega,fun l hl=>by
    obtain ⟨b,hb,rfl⟩:=List.mem_map.1 hl
    have:=(hshF b hb).nums
    rw [this.wide]
    exact this⟩
   have hgu:unpackS (((B.map fixS).map numsB).map (List.map bytesOf))=unpackS (B.map fixS):=by
    rw [List.map_map]
    have:(B.map fixS).map (List.map bytesOf ∘ numsB)=(B.map fixS).map id:=List.map_congr_left fun l _=>bytes_nums l
    rw [this,List.map_id]
   obtain ⟨u1,u2⟩:=unpackS_eq hshF
   dsimp only
   rw [if_neg (by simp),M.bind_pure]
   refine M.ret_pure.2 ?_
   show M.Ret (M.req _ _) _
   simp only [Prod.q5]
   rw [M.ret_req]
   refine ⟨⟨d1,by rw [d2];exact hpu⟩,?_⟩
   rw [d2,hgu,u1,if_neg hno]
   cases ht:(textsV (B.map fixS)).2 with
   | false=>exact M.ret_pure.2 rfl
   | true=>
    rw [if_neg (by decide),if_neg (by decide),u2 ht]
    exact M.ret_pure.2 (by show (_,s4,_)=_;rw [e4];rfl)
end Go.Fer
namespace Go.Fer
open M (Step)
set_option linter.unusedVariables false
set_option linter.unusedSimpArgs false
def hurtAt (p:List Int):List Int:=(idxI p.length).filter fun v=>decide (p.getD v.toNat 0≠-1)
def readL (f:List UInt8):List (List UInt8)×List Int×Int:=((readV f).1,hurtAt (readV f).2.1,(readV f).2.2)
abbrev fcReadF:FC:=⟨.str,.prod (.slice .str) (.prod (.slice (.int .i64)) (.int .i64)),fun x=>List.length x<65536,fun x=>readL x⟩
theorem readV_places (f:List UInt8):(readV f).2.1.length≤f.length:=by
 have:=(blocksV_out f).2
 unfold readV
 split
 ·exact Nat.zero_le _
 ·split
  ·exact Nat.zero_le _
  ·split
   ·exact Nat.zero_le _
   ·unfold placesV;simpa using this
theorem sReadF (x):M.le (S_files_Read fcRead.sh x) (fcReadF.sh x):=M.le_det fun h=>by
 change List UInt8 at x
 generalize x=f at h ⊢
 change f.length<65536 at h
 unfold S_files_Read
 show _=M.pure (readL f)
 have hp:=readV_places f
 rw [show fcRead.sh f=M.pure (readV f) from M.det_true (show f.length<65536 from h) _,M.bind_pure]
 unfold readL
 generalize readV f=r at hp
 obtain ⟨ts,p,e⟩:=r
 change p.length≤f.length at hp
 dsimp only
 rw [M.loop_list (idxI p.length) (fun i (o:List Int)=>(ts,e,p,(p.length:Int),(i:Int),o,())) (fun v o=>.next (if decide (p.getD v.toNat 0≠-1)=true then o++[v] else o)) (fun o=>.next (ts,e,o,())) (fun i o=>o.length≤i) [] ?_ ?_ ?_ ?_]
 ·rw [foldS_next,foldl_filter_app,M.bind_pure,M.go_next]
  rfl
 ·rfl
 ·exact Nat.le_refl _
 ·intro i hi o ho
  rw [idxI_len] at hi
  have hw:=wrap64 (n:=(i:Int)+1) (by omega) (by omega)
  have hzi:((i:Int)).toNat=i:=rfl
  have hd:decide ((i:Int)<(p.length:Int))=true:=decide_eq_true (by omega)
  refine ⟨?_,fun o' ho'=>?_⟩
  ·simp only [hd,if_true,ofNat_def,hzi,Prod.q5,add_defN]
   rw [M.req_true ⟨by omega,by omega⟩,idxI_get (by rw [idxI_len];exact hi),hzi]
   cases decide (p.getD i 0≠-1) with
   | true=>
    rw [if_pos rfl,M.req_true (by unfold lenLe;omega),M.bind_pure,M.go_next]
    dsimp only
    rw [add_def,hw,if_pos rfl]
    rfl
   | false=>
    rw [if_neg (by decide),M.bind_pure,M.go_next]
    dsimp only
    rw [add_def,hw,if_neg (by decide)]
    rfl
  ·simp only [Step.next.injEq] at ho'
   subst ho'
   split<;>(try simp only [List.length_append,List.length_singleton])<;>omega
 ·intro o ho
  rw [idxI_len]
  simp
abbrev fcDamage:FC:=⟨.str,.prod (.slice (.int .i64)) (.int .i64),fun x=>List.length x<65536,fun x=>(readV x).2⟩
theorem sDamage (x):M.le (S_files_Damage fcRead.sh x) (fcDamage.sh x):=M.le_det fun h=>by
 unfold S_files_Damage
 rw [show fcRead.sh x=M.pure (readV x) from M.det_true h _,M.bind_pure]
theorem hurtS_look {l:List (List UInt8)} (h:shaped (wideL l) l):hurtS l=decide ((lookS l).1≠0):=by
 unfold hurtS lookS
 rw [badRows_nums h,badCols_nums h]
 refine decide_eq_decide.2 ?_
 rcases lookI_cases (wideL l) (numsB l) with ⟨e,c⟩ | ⟨e,c⟩ | ⟨r,a,e,_,_,e1,e2,_⟩
 ·rw [e];exact ⟨fun k=>absurd k (by omega),fun k=>absurd rfl k⟩
 ·rw [e];exact ⟨fun _=>by decide,fun _=>by omega⟩
 ·rw [e,e1,e2];exact ⟨fun _=>(by show (1:Int)≠0;decide),fun _=>(by show 0<1+1;decide)⟩
theorem sCheckF (x):M.le (S_files_Check shCut shLook x) (fcCheckF.sh x):=M.le_detR fun h=>by
 change List UInt8 at x
 generalize x=f at h ⊢
 change f.length<65536 at h
 unfold S_files_Check
 show M.Ret _ fun y=>y=checkFV f
 unfold checkFV
 rw [M.ret_bind]
 refine ⟨⟨h,by simp⟩,?_⟩
 rintro ⟨okc,out,m,u⟩ ⟨p1,p2,_⟩
 change okc=(blocksV f).1 at p1
 change PoolB m out (if (blocksV f).1=true then (blocksV f).2 else []) at p2
 subst p1
 have hbl:=(blocksV_out f).2
 have hsh:=blocks_shaped f
 dsimp only
 cases hB:(blocksV f).1 with
 | false=>exact M.ret_pure.2 rfl
 | true=>
  rw [hB,if_pos rfl] at p2
  generalize (blocksV f).2=B at p2 hbl hsh
  have hol:=p2.len
  rw [if_neg (by decide),if_pos rfl,M.ret_bind]
  refine M.ret_loopN B.length (fun i s=>s.1=(((B.take i).filter hurtS).length:Int)∧s.2.1=(B.length:Int)∧s.2.2.1=(i:Int)∧s.2.2.2.1=out∧PoolB s.2.2.2.2.1 out (mix fixS B i)) ⟨rfl,by rw [ofNat_def,hol],rfl,rfl,p2⟩ ?_ ?_
  ·rintro i hi ⟨s1,s2,s3,s4,m',u'⟩ ⟨e1,e2,e3,e4,k1⟩
   change s1=_ at e1
   change s2=_ at e2
   change s3=_ at e3
   change s4=out at e4
   change PoolB m' out _ at k1
   subst e1 e2 e3 e4
   have hi2:i<s4.length:=by omega
   have hw:=wrap64 (n:=(i:Int)+1) (by omega) (by omega)
   have hzi:((i:Int)).toNat=i:=rfl
   have hl:=hsh _ (List.getElem_mem hi)
   have hgm:(mix fixS B i).getD i []=B[i]:=mix_get hi
   obtain ⟨q1,q2,q3,_⟩:=k1.look hi2 (W:=wideL B[i]) (by rw [hgm];exact hl)
   rw [hgm] at q2 q3
   rw [mix_set hi] at q3
   have hlk:shLook (s4.getD i [],m',())=M.pure ((lookS B[i]).1,(lookS B[i]).2,poolL (s4.getD i [],m',()),()):=by
    unfold shLook
    rw [q2]
    exact M.det_true q1 _
   have hcl:((B.take i).filter hurtS).length≤i:=Nat.le_trans (List.length_filter_le _ _) (by simp;omega)
   have hwc:=wrap64 (n:=(((B.take i).filter hurtS).length:Int)+1) (by omega) (by omega)
   have hsucc:((B.take (i+1)).filter hurtS).length=((B.take i).filter hurtS).length+if hurtS B[i]=true then 1 else 0:=by
    rw [List.take_add_one,List.getElem?_eq_getElem hi,List.filter_append,List.length_append]
    congr 1
    cases hh:hurtS B[i]<;>simp [Option.toList,hh]
   rw [hurtS_look hl] at hsucc
   simp only [ofNat_def,lt_len hi,if_true,hzi]
   erw [M.ret_bind]
   rw [M.ret_req]
   refine ⟨⟨by omega,by omega⟩,?_⟩
   rw [hlk,M.bind_pure]
   dsimp only
   cases hc:decide ((lookS B[i]).1≠0) with
   | true=>
    rw [hc] at hsucc
    rw [if_pos rfl]
    refine M.ret_pure.2 (M.ret_pure.2 ?_)
    simp only [add_def,hwc,hw]
    exact ⟨by rw [hsucc,if_pos rfl];omega,trivial,by omega,trivial,q3⟩
   | false=>
    rw [hc] at hsucc
    rw [if_neg (by decide)]
    refine M.ret_pure.2 (M.ret_pure.2 ?_)
    simp only [add_def,hwc,hw]
    exact ⟨by rw [hsucc,if_neg (by decide)];omega,trivial,by omega,trivial,q3⟩
  ·rintro ⟨s1,s2,s3,s4,m',u'⟩ ⟨e1,e2,e3,e4,k1⟩
   change s1=_ at e1
   change s2=_ at e2
   change s3=_ at e3
   change s4=out at e4
   subst e1 e2 e3 e4
   dsimp only
   rw [if_neg (by simp),M.bind_pure]
   refine M.ret_pure.2 ?_
   show M.Ret (M.pure _) _
   rw [List.take_length]
   exact M.ret_pure.2 (by rw [ofNat_def,hol])
def joinS:List (List (List UInt8))→List (List (List UInt8))→List (List (List UInt8))→Int×List (List (List UInt8))
 | x::X,y::Y,o=>
  if lostS x=true∧lostS y=true then (141,[])
  else if lostS x=true then joinS X Y (o++[fixS y])
  else if lostS y=false∧textS (fixS x)≠textS (fixS y) then (143,[])
  else joinS X Y (o++[fixS x])
 | _,_,o=>(0,o)
theorem joinS_cons (x y:List (List UInt8)) (X Y o):joinS (x::X) (y::Y) o=if lostS x=true∧lostS y=true then (141,[])
  else if lostS x=true then joinS X Y (o++[fixS y])
  else if lostS y=false∧textS (fixS x)≠textS (fixS y) then (143,[])
  else joinS X Y (o++[fixS x]):=by rw [joinS]
def joinV (a b:List UInt8):List (List UInt8)×Int:=
 if (blocksV a).1=false∨(blocksV b).1=false∨(blocksV a).2.length≠(blocksV b).2.length then ([],140)
 else if (joinS (blocksV a).2 (blocksV b).2 []).1≠0 then ([],(joinS (blocksV a).2 (blocksV b).2 []).1)
 else if (textsV (joinS (blocksV a).2 (blocksV b).2 []).2).2=false then ([],142)
 else ((textsV (joinS (blocksV a).2 (blocksV b).2 []).2).1,0)
abbrev fcJoin:FC:=⟨.prod .str .str,.prod (.slice .str) (.int .i64),fun x=>List.length x.1<65536∧List.length x.2<65536,fun x=>joinV x.1 x.2⟩
theorem PoolB.append {m1 m2:Pool} {out1 out2 O1 O2} (h1:PoolB m1 out1 O1) (h2:PoolB m2 out2 O2) (hk:Kept m1 m2 out2):PoolB m2 (out1++out2) (O1++O2):=by
 have hkey:∀ b∈out1,∀ k∈b,k.1∈m1.map (·.1):=fun b hb k hk=>(h1.ok b hb k hk).key
 refine ⟨h2.nd,fun b hb k hk'=>?_,?_,?_⟩
 ·rcases List.mem_append.1 hb with hb | hb
  ·obtain ⟨k1,k2,k3⟩:=h1.ok b hb k hk'
   obtain ⟨o1,o2⟩:=hk.old k.1 (hkey b hb k hk')
   exact ⟨any_key.2 o2,k2,by rw [o1];exact k3⟩
  ·exact h2.ok b hb k hk'
 ·rw [List.flatten_append,List.map_append,List.nodup_append]
  refine ⟨h1.ids,h2.ids,fun a ha c hc=>?_⟩
  intro e
  subst e
  obtain ⟨k,hk',e⟩:=List.mem_map.1 ha
  obtain ⟨b,hb,hkb⟩:=List.mem_flatten.1 hk'
  exact hk.new a hc (by rw [←e];exact hkey b hb k hkb)
 ·rw [List.map_append,List.map_append,←h1.dat,←h2.dat]
  congr 1
  refine List.map_congr_left fun b hb=>?_
  unfold rowsH
  exact List.map_congr_left fun k hk'=>(hk.old k.1 (hkey b hb k hk')).1
theorem map_eq_map {α β γ:Type} (f:α→γ) (g:β→γ) (F:List α) (o:List β) (da:α) (db:β) (hl:F.length=o.length) (h:∀ k,k<F.length→f (F.getD k da)=g (o.getD k db)):F.map f=o.map g:=by
 refine List.ext_getElem (by simp;omega) fun k h1 h2=>?_
 have hkF:k<F.length:=by simpa using h1
 have hko:k<o.length:=by omega
 have eF:F[k]=F.getD k da:=by rw [List.getD_eq_getElem?_getD,List.getElem?_eq_getElem hkF];rfl
 have eo:o[k]=o.getD k db:=by rw [List.getD_eq_getElem?_getD,List.getElem?_eq_getElem hko];rfl
 rw [List.getElem_map,List.getElem_map,eF,eo,h k hkF]
theorem sJoin (x):M.le (S_files_Join shCut shLook fcText.pre fcText.g fcUnpack.pre fcUnpack.g x) (fcJoin.sh x):=M.le_detR fun h=>by
 obtain ⟨fa,fb⟩:=x
 obtain ⟨ha,hb⟩:=h
 change List.length fa<65536 at ha
 change List.length fb<65536 at hb
 unfold S_files_Join
 show M.Ret _ fun y=>y=joinV fa fb
 unfold joinV
 rw [M.ret_bind]
 refine ⟨⟨ha,by simp⟩,?_⟩
 rintro ⟨oka,out1,m1,u1⟩ ⟨a1,a2,a3⟩
 change oka=(blocksV fa).1 at a1
 change PoolB m1 out1 (if (blocksV fa).1=true then (blocksV fa).2 else []) at a2
 rw [M.ret_bind]
 refine ⟨⟨hb,a2.nd⟩,?_⟩
 rintro ⟨okb,out2,m2,u2⟩ ⟨b1,b2,b3⟩
 change okb=(blocksV fb).1 at b1
 change PoolB m2 out2 (if (blocksV fb).1=true then (blocksV fb).2 else []) at b2
 change Kept m1 m2 out2 at b3
 subst a1 b1
 have hal:=(blocksV_out fa).2
 have hbl:=(blocksV_out fb).2
 have hsa:=blocks_shaped fa
 have hsb:=blocks_shaped fb
 dsimp only
 cases hA:(blocksV fa).1 with
 | false=>
  rw [if_pos (show (!false||!(blocksV fb).1||decide (Int.ofNat out1.length≠Int.ofNat out2.length))=true from rfl)]
  exact M.ret_pure.2 (if_pos (.inl rfl)).symm
 | true=>
 cases hB:(blocksV fb).1 with
 | false=>
  rw [if_pos (show (!true||!false||decide (Int.ofNat out1.length≠Int.ofNat out2.length))=true from rfl)]
  exact M.ret_pure.2 (if_pos (.inr (.inl rfl))).symm
 | true=>
 rw [hA,if_pos rfl] at a2
 rw [hB,if_pos rfl] at b2
 generalize (blocksV fa).2=A at a2 hal hsa
 generalize (blocksV fb).2=B at b2 hbl hsb
 have hol1:=a2.len
 have hol2:=b2.len
 have hP:=a2.append b2 b3
 by_cases hl:A.length=B.length
 ·have hd:decide (Int.ofNat out1.length≠Int.ofNat out2.length)=false:=decide_eq_false (by simp only [ofNat_def];omega)
  rw [hd,if_neg (show ¬(!true||!true||false)=true by decide),if_neg (by rintro (k | k | k);cases k;cases k;exact k hl),M.ret_bind]
  refine M.ret_loopN A.length (fun i s=>s.1=(A.length:Int)∧s.2.1=(i:Int)∧s.2.2.2.1=out2∧s.2.2.1.length=A.length∧PoolB s.2.2.2.2.1 (out1++out2) (mix fixS A i++mix fixS B i)∧(∀ k,i≤k→s.2.2.1.getD k []=out1.getD k [])∧
   ∃ o,o.length=i∧joinS (A.drop i) (B.drop i) o=joinS A B []∧∀ k,k<i→(s.2.2.1.getD k []=out1.getD k []∧o.getD k []=fixS (A.getD k []))∨(s.2.2.1.getD k []=out2.getD k []∧o.getD k []=fixS (B.getD k []))) ⟨by rw [ofNat_def,hol1],rfl,rfl,hol1,hP,fun k _=>rfl,[],rfl,rfl,fun k hk=>absurd hk (Nat.not_lt_zero k)⟩ ?_ ?_
  ·rintro i hi ⟨s1,s2,F,s4,m',u'⟩ ⟨e1,e2,e3,e4,k1,k2,o,o1,o2,o3⟩
   change s1=_ at e1
   change s2=_ at e2
   change s4=out2 at e3
   change F.length=_ at e4
   change PoolB m' (out1++out2) _ at k1
   change ∀ k,i≤k→F.getD k []=_ at k2
   change ∀ k,k<i→(F.getD k []=_∧_)∨(F.getD k []=_∧_) at o3
   subst e1 e2 e3
   have hiB:i<B.length:=by omega
   have hw:=wrap64 (n:=(i:Int)+1) (by omega) (by omega)
   have hzi:((i:Int)).toNat=i:=rfl
   have hla:=hsa _ (List.getElem_mem hi)
   have hlb:=hsb _ (List.getElem_mem hiB)
   have hmA:(mix fixS A i).length=A.length:=by unfold mix;simp;omega
   have hmA2:(mix fixS A (i+1)).length=A.length:=by unfold mix;simp;omega
   have hmB:(mix fixS B i).length=B.length:=by unfold mix;simp;omega
   have g1:(out1++s4).getD i []=out1.getD i []:=by
    simp only [List.getD_eq_getElem?_getD]
    rw [List.getElem?_append_left (by omega)]
   have g2:(mix fixS A i++mix fixS B i).getD i []=A[i]:=by
    rw [←mix_get (f:=fixS) (d:=[]) hi]
    simp only [List.getD_eq_getElem?_getD]
    rw [List.getElem?_append_left (by omega)]
   obtain ⟨q1,q2,q3,_⟩:=k1.look (i:=i) (by simp;omega) (W:=wideL A[i]) (by rw [g2];exact hla)
   rw [g1,g2] at q2 q3
   rw [g1] at q1
   rw [List.set_append_left _ _ (by omega),mix_set hi] at q3
   have hlk1:shLook (out1.getD i [],m',())=M.pure ((lookS A[i]).1,(lookS A[i]).2,poolL (out1.getD i [],m',()),()):=by
    unfold shLook
    rw [q2]
    exact M.det_true q1 _
   generalize poolL (out1.getD i [],m',())=Q at q3 hlk1
   have g3:(out1++s4).getD (A.length+i) []=s4.getD i []:=by
    simp only [List.getD_eq_getElem?_getD]
    rw [List.getElem?_append_right (by omega)]
    congr 2
    omega
   have g4:(mix fixS A (i+1)++mix fixS B i).getD (A.length+i) []=B[i]:=by
    rw [←mix_get (f:=fixS) (d:=[]) hiB]
    simp only [List.getD_eq_getElem?_getD]
    rw [List.getElem?_append_right (by omega)]
    congr 2
    omega
   obtain ⟨r1,r2,r3,_⟩:=q3.look (i:=A.length+i) (by simp;omega) (W:=wideL B[i]) (by rw [g4];exact hlb)
   rw [g3,g4] at r2 r3
   rw [g3] at r1
   have hsub:A.length+i - (mix fixS A (i+1)).length=i:=by omega
   rw [List.set_append_right _ _ (by omega),hsub,mix_set hiB] at r3
   have hlk2:shLook (s4.getD i [],Q,())=M.pure ((lookS B[i]).1,(lookS B[i]).2,poolL (s4.getD i [],Q,()),()):=by
    unfold shLook
    rw [r2]
    exact M.det_true r1 _
   generalize poolL (s4.getD i [],Q,())=Q2 at r3 hlk2
   have hmg:∀ (B:List (List (List UInt8))) (hi:i<B.length),(mix fixS B (i+1)).getD i []=fixS B[i]:=fun B hi=>by
    rw [←mix_set hi,List.getD_eq_getElem?_getD,List.getElem?_set_self (by unfold mix;simp;omega)]
    rfl
   have hro1:rowsH Q2 (out1.getD i [])=numsB (fixS A[i]):=by
    have:=r3.row (i:=i) (by simp;omega)
    rw [g1] at this
    rw [this,←hmg A hi]
    simp only [List.getD_eq_getElem?_getD]
    rw [List.getElem?_append_left (by omega)]
   have hro2:rowsH Q2 (s4.getD i [])=numsB (fixS B[i]):=by
    have:=r3.row (i:=A.length+i) (by simp;omega)
    rw [g3] at this
    rw [this,←hmg B hiB]
    simp only [List.getD_eq_getElem?_getD]
    rw [List.getElem?_append_right (by omega)]
    congr 3
   have hok1:=r3.ok (out1.getD i []) (List.mem_append_left _ (getD_out (by omega)))
   have hok2:=r3.ok (s4.getD i []) (List.mem_append_right _ (getD_out (by omega)))
   obtain ⟨d1,d2⟩:=deref_rows hok1
   obtain ⟨d3,d4⟩:=deref_rows hok2
   rw [hro1] at d2
   rw [hro2] at d4
   have hpt:∀ l:List (List UInt8),shaped (wideL l) l→fcText.pre (numsB (fixS l)):=fun l hl=>⟨by show (numsB (fixS l)).length<65536;rw [List.length_map,fixS_len hl];have:=hl.2.1;omega,fun r hr=>((fixS_shaped hl).nums.row hr).2.1⟩
   have hgt:∀ l:List (List UInt8),bytesOf (textI (numsB (fixS l)))=textS (fixS l):=fun l=>by rw [←textS_nums,bytesOf_numsOf]
   have hF:=k2 i (Nat.le_refl _)
   have hdA:A.drop i=A[i]::A.drop (i+1):=List.drop_eq_getElem_cons hi
   have hdB:B.drop i=B[i]::B.drop (i+1):=List.drop_eq_getElem_cons hiB
   rw [hdA,hdB] at o2
   have hA':A.getD i []=A[i]:=by rw [List.getD_eq_getElem?_getD,List.getElem?_eq_getElem hi];rfl
   have hB':B.getD i []=B[i]:=by rw [List.getD_eq_getElem?_getD,List.getElem?_eq_getElem hiB];rfl
   have hog:∀ (v:List (List UInt8)) k,(o++[v]).getD k []=if k<i then o.getD k [] else if k=i then v else []:=fun v k=>by
    simp only [List.getD_eq_getElem?_getD]
    by_cases c:k<i
    ·rw [if_pos c,List.getElem?_append_left (by omega)]
    ·rw [if_neg c,List.getElem?_append_right (by omega)]
     by_cases c2:k=i
     ·subst c2
      rw [if_pos rfl,o1,Nat.sub_self]
      rfl
     ·rw [if_neg c2]
      have:k - o.length≠0:=by omega
      cases hk:k - o.length with
      | zero=>omega
      | succ n=>rfl
   simp only [ofNat_def,lt_len hi,if_true,hzi]
   erw [M.ret_bind]
   rw [M.ret_req]
   refine ⟨⟨by omega,by omega⟩,?_⟩
   rw [hF]
   erw [hlk1]
   rw [M.bind_pure]
   dsimp only
   rw [M.ret_req]
   refine ⟨⟨by omega,by omega⟩,?_⟩
   erw [hlk2]
   rw [M.bind_pure]
   dsimp only
   rw [joinS_cons] at o2
   by_cases c1:(lookS A[i]).1=2
   ·have l1:lostS A[i]=true:=decide_eq_true c1
    by_cases c2:(lookS B[i]).1=2
    ·have l2:lostS B[i]=true:=decide_eq_true c2
     rw [if_pos ⟨l1,l2⟩] at o2
     rw [if_pos (by rw [c1,c2];rfl),M.bind_pure,M.bind_pure,M.bind_pure]
     refine M.ret_pure.2 (M.ret_pure.2 ?_)
     show M.Ret (M.pure (([],141):List (List UInt8)×Int)) _
     refine M.ret_pure.2 ?_
     rw [←o2,if_pos (by decide)]
    ·have l2:¬lostS B[i]=true:=fun k=>c2 (of_decide_eq_true k)
     rw [if_neg (fun k=>l2 k.2),if_pos l1] at o2
     rw [if_neg (by rw [c1,decide_eq_false c2];decide),if_pos (decide_eq_true c1),M.ret_req]
     refine ⟨⟨by omega,by omega⟩,?_⟩
     rw [M.ret_req]
     refine ⟨⟨by omega,by omega⟩,M.ret_pure.2 (M.ret_pure.2 ?_)⟩
     simp only [add_def,hw]
     refine ⟨trivial,by omega,trivial,by rw [List.length_set];exact e4,r3,fun k hk=>?_,o++[fixS B[i]],by simp;omega,o2,fun k hk=>?_⟩
     ·have:i≠k:=by omega
      rw [List.getD_eq_getElem?_getD,List.getElem?_set_ne this,←List.getD_eq_getElem?_getD]
      exact k2 k (by omega)
     ·rw [hog]
      by_cases e:k=i
      ·subst e
       rw [if_neg (by omega),if_pos rfl,hB']
       right
       refine ⟨?_,rfl⟩
       rw [List.getD_eq_getElem?_getD,List.getElem?_set_self (by omega)]
       rfl
      ·rw [if_pos (by omega),List.getD_eq_getElem?_getD,List.getElem?_set_ne (fun k'=>e k'.symm),←List.getD_eq_getElem?_getD]
       exact o3 k (by omega)
   ·have l1:¬lostS A[i]=true:=fun k=>c1 (of_decide_eq_true k)
    rw [if_neg (fun k=>l1 k.1),if_neg l1] at o2
    have dd:decide ((lookS A[i]).1=2)=false:=decide_eq_false c1
    rw [if_neg (by rw [dd];exact Bool.false_ne_true),if_neg (by rw [dd];exact Bool.false_ne_true)]
    rw [M.req_true (fun e=>⟨⟨e,trivial⟩,⟨d1,by rw [d2];exact hpt _ hla⟩,trivial⟩),M.req_true (fun e=>⟨⟨e,e⟩,⟨by omega,by omega⟩,trivial⟩),M.req_true (fun e=>⟨e,trivial,trivial⟩),M.req_true (fun e=>⟨⟨e,trivial⟩,⟨d3,by rw [d4];exact hpt _ hlb⟩,trivial⟩),M.req_true (fun e=>⟨⟨e,e⟩,trivial,trivial⟩),M.req_true ⟨trivial,fun e=>e⟩,d2,d4,hgt,hgt]
    by_cases c3:lostS B[i]=false∧textS (fixS A[i])≠textS (fixS B[i])
    ·rw [if_pos c3] at o2
     have d5:decide ((lookS B[i]).1≠2)=true:=decide_eq_true fun k=>by
      have:lostS B[i]=true:=decide_eq_true k
      rw [c3.1] at this
      cases this
     rw [if_pos (by rw [d5,decide_eq_true c3.2];rfl),M.bind_pure,M.bind_pure,M.bind_pure]
     refine M.ret_pure.2 (M.ret_pure.2 ?_)
     show M.Ret (M.pure (([],143):List (List UInt8)×Int)) _
     refine M.ret_pure.2 ?_
     rw [←o2,if_pos (by decide)]
    ·rw [if_neg c3] at o2
     have d5:¬(decide ((lookS B[i]).1≠2)&&decide (textS (fixS A[i])≠textS (fixS B[i])))=true:=fun k=>by
      rw [Bool.and_eq_true,decide_eq_true_iff,decide_eq_true_iff] at k
      exact c3 ⟨decide_eq_false k.1,k.2⟩
     rw [if_neg d5]
     refine M.ret_pure.2 (M.ret_pure.2 ?_)
     simp only [add_def,hw]
     refine ⟨trivial,by omega,trivial,e4,r3,fun k hk=>k2 k (by omega),o++[fixS A[i]],by simp;omega,o2,fun k hk=>?_⟩
     rw [hog]
     by_cases e:k=i
     ·subst e
      rw [if_neg (by omega),if_pos rfl,hA']
      exact .inl ⟨hF,rfl⟩
     ·rw [if_pos (by omega)]
      exact o3 k (by omega)
  ·rintro ⟨s1,s2,F,s4,m',u'⟩ ⟨e1,e2,e3,e4,k1,k2,o,o1,o2,o3⟩
   change s1=_ at e1
   change s2=_ at e2
   change s4=out2 at e3
   change F.length=_ at e4
   change PoolB m' (out1++out2) _ at k1
   change ∀ k,k<_→(F.getD k []=_∧_)∨(F.getD k []=_∧_) at o3
   subst e1 e2 e3
   rw [mix_all,hl,mix_all] at k1
   have ho2:joinS A B []=(0,o):=by
    rw [←o2,List.drop_length]
    rfl
   dsimp only
   rw [if_neg (by simp),M.bind_pure]
   refine M.ret_pure.2 ?_
   show M.Ret (M.req _ _) _
   have hFr:∀ k,k<A.length→(∀ h∈F.getD k [],hOk m' h)∧rowsH m' (F.getD k [])=numsB (o.getD k [])∧shaped (wideL (o.getD k [])) (o.getD k []):=fun k hk=>by
    have hA':A.getD k []=A[k]:=by rw [List.getD_eq_getElem?_getD,List.getElem?_eq_getElem hk];rfl
    have hkB:k<B.length:=by omega
    have hB':B.getD k []=B[k]:=by rw [List.getD_eq_getElem?_getD,List.getElem?_eq_getElem hkB];rfl
    rcases o3 k hk with ⟨f1,f2⟩ | ⟨f1,f2⟩
    ·rw [f1,f2,hA']
     have g1:(out1++s4).getD k []=out1.getD k []:=by
      simp only [List.getD_eq_getElem?_getD]
      rw [List.getElem?_append_left (by omega)]
     have hr:=k1.row (i:=k) (by simp;omega)
     rw [g1] at hr
     refine ⟨k1.ok _ (List.mem_append_left _ (getD_out (by omega))),?_,?_⟩
     ·rw [hr]
      congr 1
      simp only [List.getD_eq_getElem?_getD]
      rw [List.getElem?_append_left (by simp;omega),List.getElem?_map,List.getElem?_eq_getElem hk]
      rfl
     ·have:=fixS_shaped (hsa _ (List.getElem_mem hk))
      rw [this.wide];exact this
    ·rw [f1,f2,hB']
     have g1:(out1++s4).getD (A.length+k) []=s4.getD k []:=by
      simp only [List.getD_eq_getElem?_getD]
      rw [List.getElem?_append_right (by omega)]
      congr 2
      omega
     have hr:=k1.row (i:=A.length+k) (by simp;omega)
     rw [g1] at hr
     refine ⟨k1.ok _ (List.mem_append_right _ (getD_out (by omega))),?_,?_⟩
     ·rw [hr]
      congr 1
      simp only [List.getD_eq_getElem?_getD]
      rw [List.getElem?_append_right (by simp),List.length_map,Nat.add_sub_cancel_left,List.getElem?_map,List.getElem?_eq_getElem hkB]
      rfl
     ·have:=fixS_shaped (hsb _ (List.getElem_mem hkB))
      rw [this.wide];exact this
   have hmem:∀ b∈F,∃ k,k<A.length∧F.getD k []=b:=fun b hb=>by
    obtain ⟨k,hk,rfl⟩:=List.mem_iff_getElem.1 hb
    exact ⟨k,by omega,by rw [List.getD_eq_getElem?_getD,List.getElem?_eq_getElem hk];rfl⟩
   have d1:RawOk (.int .u8) m' (.slice (.slice (.raws (.int .u8)))) F:=fun b hb=>by
    obtain ⟨k,hk,rfl⟩:=hmem b hb
    exact (deref_rows (hFr k hk).1).1
   have d2:deref (.int .u8) m' (.slice (.slice (.raws (.int .u8)))) F=o.map numsB:=by
    show F.map (deref (.int .u8) m' (.slice (.raws (.int .u8))))=_
    exact map_eq_map (γ:=List (List Int)) _ _ F o [] [] (by omega) fun k hk=>by
     have hk:k<A.length:=by omega
     exact (deref_rows (hFr k hk).1).2.trans (hFr k hk).2.1
   have hshF:∀ l∈o,shaped (wideL l) l:=fun l hl=>by
    obtain ⟨k,hk,rfl⟩:=List.mem_iff_getElem.1 hl
    have:=(hFr k (by omega)).2.2
    rw [List.getD_eq_getElem?_getD,List.getElem?_eq_getElem hk] at this
    exact this
   have hpu:fcUnpack.pre (o.map numsB):=⟨by show (o.map numsB).length<65536;simp;omega,fun l hl=>by
    obtain ⟨b,hb,rfl⟩:=List.mem_map.1 hl
    have:=(hshF b hb).nums
    rw [this.wide]
    exact this⟩
   have hgu:unpackS ((o.map numsB).map (List.map bytesOf))=unpackS o:=by
    rw [List.map_map]
    have:o.map (List.map bytesOf ∘ numsB)=o.map id:=List.map_congr_left fun l _=>bytes_nums l
    rw [this,List.map_id]
   obtain ⟨u1,u2⟩:=unpackS_eq hshF
   dsimp only
   rw [M.ret_req]
   refine ⟨⟨d1,by rw [d2];exact hpu⟩,?_⟩
   rw [d2]
   simp only [hgu,u1]
   have hv:(if (joinS A B []).1≠0 then (([],(joinS A B []).1):List (List UInt8)×Int) else if (textsV (joinS A B []).2).2=false then ([],142) else ((textsV (joinS A B []).2).1,0))=if (textsV o).2=false then ([],142) else ((textsV o).1,0):=by
    rw [ho2]
    exact if_neg fun k=>k rfl
   rw [hv]
   cases ht:(textsV o).2 with
   | false=>exact M.ret_pure.2 rfl
   | true=>
    rw [if_neg (show ¬(!true)=true by decide),u2 ht]
    exact M.ret_pure.2 rfl
 ·have hd:decide (Int.ofNat out1.length≠Int.ofNat out2.length)=true:=decide_eq_true (by simp only [ofNat_def];omega)
  rw [hd,if_pos (show (!true||!true||true)=true by decide),if_pos (.inr (.inr hl))]
  exact M.ret_pure.2 rfl
end Go.Fer
namespace Go.Fer
open M (Step)
set_option linter.unusedVariables false
set_option linter.unusedSimpArgs false
theorem set_split {r:List UInt8} {j:Nat} (h:j<r.length) (b:UInt8):List.take j r++[b]++List.drop (j+1) r=r.set j b:=by
 rw [List.set_eq_take_append_cons_drop,if_pos h]
 simp
theorem numsOf_set (r:List UInt8) (j:Nat) (b:UInt8):numsOf (r.set j b)=(numsOf r).set j (b.toNat:Int):=by
 unfold numsOf
 rw [List.map_set]
theorem colBadI_congr {R R':List (List Int)} {c:Nat} (hl:R'.length=R.length) (h:∀ k,k<R.length→(R'.getD k []).getD c 0=(R.getD k []).getD c 0) (h0:0<R.length):colBadI R' c=colBadI R c:=by
 unfold colBadI
 rw [hl,h (R.length - 1) (by omega)]
 have e:colI (R'.take (R.length - 1)) (c:Int)=colI (R.take (R.length - 1)) (c:Int):=by
  unfold colI
  refine List.ext_getElem (by simp [hl]) fun k h1 h2=>?_
  have hk:k<R.length:=by simp at h2;omega
  have hk':k<R'.length:=by omega
  have hh:=h k hk
  have eR':R'.getD k []=R'[k]:=by rw [List.getD_eq_getElem?_getD,List.getElem?_eq_getElem hk'];rfl
  have eR:R.getD k []=R[k]:=by rw [List.getD_eq_getElem?_getD,List.getElem?_eq_getElem hk];rfl
  rw [eR',eR] at hh
  rw [List.getElem_map,List.getElem_map,List.getElem_take,List.getElem_take]
  exact hh
 rw [e]
theorem mendI_get {R:List (List Int)} {i j k:Nat}:(mendI R (i:Int) (j:Int)).getD k []=if i=k∧i<R.length then putI (R.getD i []) (j:Int) (fixI (R.getD i []) (j:Int)) else R.getD k []:=by
 unfold mendI
 have zi:((i:Int)).toNat=i:=rfl
 rw [zi]
 simp only [List.getD_eq_getElem?_getD,List.getElem?_set]
 by_cases e:i=k
 ·subst e
  by_cases h:i<R.length
  ·simp [h]
  ·simp [h]
 ·simp [e]
theorem mend_whole {W:Nat} {R:List (List Int)} (h:shapedI W R) {i j:Nat} (hi:i<R.length) (hj:j<W) (hr:badRowsI R=[(i:Int)]) (hc:badColsI W R=[(j:Int)]) (hg:colBadI (mendI R (i:Int) (j:Int)) j=false) :
  badRowsI (mendI R (i:Int) (j:Int))=[]∧badColsI W (mendI R (i:Int) (j:Int))=[]:=by
 have hml:(mendI R (i:Int) (j:Int)).length=R.length:=by unfold mendI;rw [List.length_set]
 have hri:=h.2.2.2.2 _ (getD_memR hi)
 have hrok:rowOk (R.getD i []):=h.row (getD_memR hi)
 have hfx:=fixI_ok hrok (a:=(j:Int)) (by omega) (by omega)
 constructor
 ·refine List.eq_nil_iff_forall_not_mem.2 fun v hv=>?_
  obtain ⟨k,hk,rfl,hb⟩:=badRowsI_mem.1 hv
  rw [hml] at hk
  rw [mendI_get] at hb
  by_cases e:i=k
  ·subst e
   rw [if_pos ⟨rfl,hi⟩,hfx.2] at hb
   cases hb
  ·rw [if_neg fun x=>e x.1] at hb
   have:(k:Int)∈badRowsI R:=badRowsI_mem.2 ⟨k,hk,rfl,hb⟩
   rw [hr,List.mem_singleton] at this
   omega
 ·refine List.eq_nil_iff_forall_not_mem.2 fun v hv=>?_
  obtain ⟨c,hcW,rfl,hb⟩:=badColsI_mem.1 hv
  by_cases e:c=j
  ·subst e
   rw [hg] at hb
   cases hb
  ·rw [colBadI_congr (R:=R) hml (fun k hk=>by
    rw [mendI_get]
    by_cases e2:i=k
    ·subst e2
     rw [if_pos ⟨rfl,hi⟩]
     unfold putI
     have zj:((j:Int)).toNat=j:=rfl
     rw [zj,getD_set (by omega),if_neg fun x=>e x.symm]
    ·rw [if_neg fun x=>e2 x.1]) (by omega)] at hb
   have:(c:Int)∈badColsI W R:=badColsI_mem.2 ⟨c,hcW,rfl,hb⟩
   rw [hc,List.mem_singleton] at this
   omega
def mendV (x:List (List UInt8)):List (List UInt8)×Int×Int×Bool:=
 if (lookS x).1=0 then (x,-1,-1,true) else if (lookS x).1=2 then ([],-1,-1,false) else (fixS x,(lookS x).2.1,(lookS x).2.2,true)
abbrev fcMend:FC:=⟨.slice .str,.prod (.slice .str) (.prod (.int .i64) (.prod (.int .i64) .bool)),fun x=>shaped (wideL (x:List (List UInt8))) x,fun x=>mendV x⟩
theorem sMend (x):M.le (S_ref14_Mend fcFailing.sh fcWritten.sh fcCheckR.sh fcColumnR.sh x) (fcMend.sh x):=M.le_det fun h=>by
 change List (List UInt8) at x
 change shaped (wideL x) x at h
 show _=M.pure (mendV x)
 have hI:=h.nums
 have hfail:∀ l:List (List UInt8),shaped (wideL l) l→fcFailing.sh l=M.pure (badRowsI (numsB l),badColsI (wideL l) (numsB l)):=fun l hl=>(M.det_true (show shaped (List.length (List.getD l 0 [])) l from hl) _).trans (by
  show M.pure (badRows (wideL l) l,badCols (wideL l) l)=_
  rw [badRows_nums hl,badCols_nums hl])
 unfold S_ref14_Mend
 rw [hfail x h,M.bind_pure]
 unfold mendV lookS
 have hwl:wideL x=(x.getD 0 []).length:=rfl
 generalize hWe:wideL x=W at h hI hwl
 have hwI:=hI.wide
 have hlI:∀ (l1 l2:List Int),(decide (Int.ofNat l1.length=0)&&decide (Int.ofNat l2.length=0))=decide (l1.length+l2.length=0):=fun l1 l2=>by
  rw [Bool.eq_iff_iff,Bool.and_eq_true,decide_eq_true_iff,decide_eq_true_iff,decide_eq_true_iff]
  simp only [ofNat_def]
  omega
 have hlO:∀ (l1 l2:List Int),(decide (Int.ofNat l1.length≠1)||decide (Int.ofNat l2.length≠1))=decide (l1.length≠1∨l2.length≠1):=fun l1 l2=>by
  rw [Bool.eq_iff_iff,Bool.or_eq_true,decide_eq_true_iff,decide_eq_true_iff,decide_eq_true_iff]
  simp only [ofNat_def]
  omega
 dsimp only
 rw [hlI,hlO]
 by_cases c1:(badRowsI (numsB x)).length+(badColsI W (numsB x)).length=0
 ·rw [if_pos (decide_eq_true c1)]
  unfold lookI
  rw [if_pos c1,if_pos rfl]
 ·rw [if_neg (by rw [decide_eq_true_iff];exact c1)]
  by_cases c2:(badRowsI (numsB x)).length≠1∨(badColsI W (numsB x)).length≠1
  ·rw [if_pos (decide_eq_true c2)]
   unfold lookI
   rw [if_neg c1,if_pos c2,if_neg (show ¬(2:Int)=0 by decide),if_pos rfl]
  ·rw [if_neg (by rw [decide_eq_true_iff];exact c2)]
   have hlk:lookI W (numsB x)=if colBadI (mendI (numsB x) ((badRowsI (numsB x)).getD 0 0) ((badColsI W (numsB x)).getD 0 0)) ((badColsI W (numsB x)).getD 0 0).toNat=true then (2,0,0) else (1,(badRowsI (numsB x)).getD 0 0,(badColsI W (numsB x)).getD 0 0):=by
    unfold lookI
    rw [if_neg c1,if_neg c2]
   rw [hlk]
   obtain ⟨v1,e1⟩:=List.length_eq_one_iff.1 (show (badRowsI (numsB x)).length=1 by omega)
   obtain ⟨v2,e2⟩:=List.length_eq_one_iff.1 (show (badColsI W (numsB x)).length=1 by omega)
   obtain ⟨i,hi,rfl,hib⟩:=badRowsI_mem.1 (show v1∈badRowsI (numsB x) by rw [e1];simp)
   obtain ⟨j,hj,rfl,hjb⟩:=badColsI_mem.1 (show v2∈badColsI W (numsB x) by rw [e2];simp)
   have hi':i<x.length:=by simpa using hi
   have g1:List.getD [(i:Int)] 0 0=(i:Int):=rfl
   have g2:List.getD [(j:Int)] 0 0=(j:Int):=rfl
   have z:(0:Int).toNat=0:=rfl
   have zi:((i:Int)).toNat=i:=rfl
   have zj:((j:Int)).toNat=j:=rfl
   simp only [e1,e2,z,g1,g2,zj]
   obtain ⟨h1,h2,h3,h4,h5⟩:=h
   have hgi:x.getD i []=x[i]:=by rw [List.getD_eq_getElem?_getD,List.getElem?_eq_getElem hi'];rfl
   obtain ⟨hil,hio⟩:=h5 _ (List.getElem_mem hi')
   generalize hr:x[i]=r at hgi hil hio
   have hnr:(numsB x).getD i []=numsOf r:=by rw [getD_nums,hgi]
   have hrok:rowOk (numsOf r):=by rw [←hnr];exact hI.row (getD_memR hi)
   have hnl:(numsOf r).length=W:=by rw [numsOf_len,hil]
   have hfx:=fixI_ok hrok (a:=(j:Int)) (by omega) (by omega)
   have hfxi:=okI_iff.1 hfx.1
   generalize hfxe:fixI (numsOf r) (j:Int)=fx at hfx hfxi
   have hMI:mendI (numsB x) (i:Int) (j:Int)=(numsB x).set i ((numsOf r).set j fx):=by
    unfold mendI putI
    rw [zi,zj,hnr,hfxe]
   have hw0:=wrap64 (n:=(x.length:Int) - 1) (by omega) (by omega)
   rw [M.req_true ⟨Int.le_refl _,show (0:Int)<1 by decide⟩,M.req_true ⟨Int.le_refl _,show (0:Int)<1 by decide⟩,M.req_true ⟨Int.le_refl _,by rw [ofNat_def];omega⟩]
   rw [M.loop_listT (List.range 95) (fun v (_:Unit)=>(x,(i:Int),(j:Int),(W:Int),(x.length:Int) - 1,(v:Int),())) (fun (v:Nat) u=>if (decide ((v:Int)+32=fx)&&!colBadI (mendI (numsB x) (i:Int) (j:Int)) j)=true then .done (.done ((mendI (numsB x) (i:Int) (j:Int)).map bytesOf,(i:Int),(j:Int),true)) else .next u) (fun _=>.next ()) () ?_ ?_ ?_]
   ·rw [foldS_any]
    have hany:((List.range 95).any fun v=>decide (((v:Nat):Int)+32=fx)&&!colBadI (mendI (numsB x) (i:Int) (j:Int)) j)=!colBadI (mendI (numsB x) (i:Int) (j:Int)) j:=by
     rw [Bool.eq_iff_iff,List.any_eq_true]
     constructor
     ·rintro ⟨v,_,hv⟩
      rw [Bool.and_eq_true] at hv
      exact hv.2
     ·intro hv
      refine ⟨(fx - 32).toNat,List.mem_range.2 (by omega),?_⟩
      rw [hv,Bool.and_true,decide_eq_true_iff]
      omega
    rw [hany]
    cases hcb:colBadI (mendI (numsB x) (i:Int) (j:Int)) j with
    | true=>
     rw [if_neg (by decide),M.bind_pure,M.go_next,if_pos rfl,if_neg (show ¬(2:Int)=0 by decide),if_pos rfl]
    | false=>
     rw [if_pos (show (!false)=true from rfl),if_neg (show ¬false=true by decide),if_neg (show ¬(1:Int)=0 by decide),if_neg (show ¬(1:Int)=2 by decide)]
     have hf:fixS x=(mendI (numsB x) (i:Int) (j:Int)).map bytesOf:=by
      unfold fixS fixR
      rw [hwI,hlk,e1,e2,g1,g2,zj,hcb,if_neg (show ¬false=true by decide),if_pos rfl]
     rw [hf,M.bind_pure]
     rfl
   ·simp only [ofNat_def,hw0]
    rw [hwl]
    rfl
   ·intro v hv u
    have hv95:v<95:=by simpa using hv
    have ev:(List.range 95)[v]'hv=v:=List.getElem_range ..
    rw [ev]
    have hd:decide ((v:Int)<95)=true:=decide_eq_true (by omega)
    have hwv:=wrap64 (n:=(v:Int)+1) (by omega) (by omega)
    have hwj:=wrap64 (n:=(j:Int)+1) (by omega) (by omega)
    have hwW:=wrap64 (n:=(W:Int) - 1) (by omega) (by omega)
    have zj1:((j:Int)+1).toNat=j+1:=by omega
    have zW1:((W:Int) - 1).toNat=W - 1:=by omega
    have zl:((x.length:Int) - 1).toNat=x.length - 1:=by omega
    have zn:∀ n:Nat,((n:Int)).toNat=n:=fun _=>rfl
    have hwr:(fcWritten.sh (v:Int)).val []=[wrB (v:Int)]:=M.val_det
    have hvc:∀ t,(fcCheckR.sh t).val []=[chkS t]:=fun t=>M.val_det
    have hvl:∀ p,(fcColumnR.sh p).val []=colS p.1 p.2:=fun p=>M.val_det
    have hjr:j<r.length:=by omega
    have hsp:=set_split hjr (wrB (v:Int))
    have hLn:numsOf (r.set j (wrB (v:Int)))=putI (numsOf r) (j:Int) ((v:Int)+32):=by
     rw [numsOf_set,wrB_nat (by omega) (by omega)]
     rfl
    have hok32:okI ((v:Int)+32)=true:=okI_iff.2 ⟨by omega,by omega⟩
    have hLok:(r.set j (wrB (v:Int))).all okB=true:=by
     rw [←numsOf_okI,hLn]
     exact (putI_ok hrok hok32).2.2
    have hLl:(r.set j (wrB (v:Int))).length=W:=by rw [List.length_set,hil]
    have htl:(List.take j r).length=j:=by simp;omega
    have hdl:(List.drop (j+1) r).length=W - (j+1):=by simp [hil]
    simp only [hd,if_true,Prod.q5,ofNat_def,zi,zj,zn,hgi,hwj,hwW,zj1,zW1,zl,hwr,hvc,hvl,List.take_length,hsp,add_def,add_defN,List.nil_append,hwv]
    generalize hL:r.set j (wrB (v:Int))=L at hLn hLok hLl
    rw [M.req_true ⟨by omega,by omega⟩,M.req_true ⟨Int.le_refl _,by omega,by omega⟩,M.req_true (show (fcWritten.sh (v:Int)).safe from (show (0:Int)≤(v:Int)∧(v:Int)≤94 from ⟨by omega,by omega⟩)),
     M.req_true (by rw [htl];show lenLe (j+1);unfold lenLe;omega),M.req_true ⟨by omega,by omega⟩,M.req_true ⟨by omega,by omega,Int.le_refl _⟩,
     M.req_true (by rw [List.length_append,htl,hdl];show lenLe (j+1+_);unfold lenLe;omega),M.req_true ⟨Int.le_refl _,by omega,by omega⟩,
     M.req_true (show (fcCheckR.sh (L.take (W - 1))).safe from (show (L.take (W - 1)).length<65536∧(L.take (W - 1)).all okB=true from ⟨by simp;omega,all_take hLok _⟩)),M.req_true ⟨by omega,by omega,Int.le_refl _⟩]
    have hcl:W - 1<L.length:=by omega
    have ed:List.drop (W - 1) L=[L.getD (W - 1) 0]:=by
     rw [List.drop_eq_getElem_cons hcl,List.drop_eq_nil_of_le (by omega),List.getD_eq_getElem?_getD,List.getElem?_eq_getElem hcl]
     rfl
    have erow:decide ([chkS (L.take (W - 1))]≠List.drop (W - 1) L)=rowBadI (putI (numsOf r) (j:Int) ((v:Int)+32)):=by
     rw [ed,sing_ne,←hLn,←rowBad_nums hLl hLok]
     rfl
    rw [erow]
    by_cases hvf:(v:Int)+32=fx
    ·have hrb:rowBadI (putI (numsOf r) (j:Int) ((v:Int)+32))=false:=by rw [hvf];exact hfx.2
     rw [hrb,if_neg (by decide),decide_eq_true hvf,Bool.true_and]
     have hoI:numsB (x.set i L)=mendI (numsB x) (i:Int) (j:Int):=by
      rw [hMI]
      unfold numsB
      rw [List.map_set,hLn,hvf]
      rfl
     have hos:shaped W (x.set i L):=shaped_of_nums (by rw [hoI];exact mendI_shaped hI hi hj)
     have how:=hos.wide
     have hol:(x.set i L).length=x.length:=List.length_set ..
     obtain ⟨o1,o2,o3,o4,o5⟩:=hos
     have hlast:x.length - 1<(x.set i L).length:=by omega
     have hlm:(x.set i L).getD (x.length - 1) []∈x.set i L:=by
      rw [List.getD_eq_getElem?_getD,List.getElem?_eq_getElem hlast];exact List.getElem_mem hlast
     obtain ⟨l1,l2⟩:=o5 _ hlm
     have hcolok:∀ q∈(x.set i L).take (x.length - 1),q.all okB=true∧j<q.length:=fun q hq=>by
      have:=o5 q (List.mem_of_mem_take hq)
      exact ⟨this.2,by omega⟩
     rw [M.req_true (by show lenLe (0+x.length);unfold lenLe;omega),M.req_true ⟨by omega,by omega⟩,M.req_true ⟨Int.le_refl _,by omega,by omega⟩,
      M.req_true (show (fcColumnR.sh ((x.set i L).take (x.length - 1),(j:Int))).safe from (show ((x.set i L).take (x.length - 1)).length<65536∧0≤(j:Int)∧∀ q∈(x.set i L).take (x.length - 1),(j:Int)<(q.length:Int)∧q.length<65536 from ⟨by simp;omega,by omega,fun q hq=>by have:=o5 q (List.mem_of_mem_take hq);omega⟩)),
      M.req_true (show (fcCheckR.sh (colS ((x.set i L).take (x.length - 1)) (j:Int))).safe from (show (colS ((x.set i L).take (x.length - 1)) (j:Int)).length<65536∧(colS ((x.set i L).take (x.length - 1)) (j:Int)).all okB=true from ⟨by unfold colS;simp;omega,colS_ok hcolok⟩)),
      M.req_true ⟨by omega,by omega⟩,M.req_true ⟨by omega,by omega,by show (j:Int)+1≤((((x.set i L).getD (x.length - 1) []).length:Nat):Int);omega⟩]
     have hjl:j<((x.set i L).getD (x.length - 1) []).length:=by omega
     have ec:List.drop j (List.take (j+1) ((x.set i L).getD (x.length - 1) []))=[((x.set i L).getD (x.length - 1) []).getD j 0]:=by
      generalize (x.set i L).getD (x.length - 1) []=q at hjl
      rw [List.take_add_one,List.getElem?_eq_getElem hjl,List.drop_append_of_le_length (by simp;omega),List.getD_eq_getElem?_getD,List.getElem?_eq_getElem hjl]
      simp
     have ecol:decide ([chkS (colS ((x.set i L).take (x.length - 1)) (j:Int))]≠List.drop j (List.take (j+1) ((x.set i L).getD (x.length - 1) [])))=colBadI (mendI (numsB x) (i:Int) (j:Int)) j:=by
      rw [ec,sing_ne,←hoI,←colBad_nums ⟨o1,o2,o3,o4,o5⟩ hj]
      unfold colBadS
      rw [hol]
     rw [ecol]
     cases hcb:colBadI (mendI (numsB x) (i:Int) (j:Int)) j with
     | true=>
      rw [if_pos rfl,if_neg (show ¬(!true)=true by decide),M.bind_pure,M.go_next]
      simp only [hwv]
      rfl
     | false=>
      obtain ⟨w1,w2⟩:=mend_whole hI hi hj e1 e2 hcb
      rw [if_neg (by decide),if_pos (show (!false)=true from rfl),hfail _ (by rw [how];exact ⟨o1,o2,o3,o4,o5⟩),M.bind_pure,how,hoI,w1,w2]
      rw [if_pos (by rfl),←hoI,bytes_nums]
      simp only [M.bind_pure]
      rfl
    ·have hrb:rowBadI (putI (numsOf r) (j:Int) ((v:Int)+32))=true:=by
      cases hq:rowBadI (putI (numsOf r) (j:Int) ((v:Int)+32)) with
      | true=>rfl
      | false=>exact absurd (fix_unique hrok (by omega) (by omega) hok32 hfx.1 hq hfx.2) hvf
     rw [hrb,if_pos rfl,decide_eq_false hvf,M.bind_pure,M.go_next]
     simp only [hwv]
     rfl
   ·intro u
    have hr95:(List.range 95).length=95:=by simp
    rw [hr95]
    simp only [Prod.q5]
    rw [if_neg (by simp),M.bind_pure]
end Go.Fer
namespace Go.Fer
open M (Step)
set_option linter.unusedVariables false
set_option linter.unusedSimpArgs false
theorem look_states (l:List (List UInt8)):(lookS l).1=0∨(lookS l).1=2∨((lookS l).1=1∧∃ r a:Nat,(lookS l).2=((r:Int),(a:Int))∧r<l.length∧a<wideL l):=by
 unfold lookS
 rcases lookI_cases (wideL l) (numsB l) with ⟨e,_⟩ | ⟨e,_⟩ | ⟨r,a,e,hr,ha,_⟩
 ·rw [e];exact .inl rfl
 ·rw [e];exact .inr (.inl rfl)
 ·rw [e];exact .inr (.inr ⟨rfl,r,a,rfl,by simpa using hr,ha⟩)
theorem fixS_eq {l:List (List UInt8)} (h:shaped (wideL l) l) (hn:(lookS l).1≠1):fixS l=l:=fixS_whole (by
 have:wideI (numsB l)=wideL l:=h.nums.wide
 rw [this]
 exact hn)
theorem mendV_lost {l:List (List UInt8)} (h:lostS l=true):mendV l=([],-1,-1,false):=by
 have h:=of_decide_eq_true h
 unfold mendV
 rw [if_neg (by rw [h];decide),if_pos h]
theorem mendV_good {l:List (List UInt8)} (hs:shaped (wideL l) l) (h:lostS l=false):mendV l=(fixS l,if (lookS l).1=1 then (lookS l).2.1 else -1,if (lookS l).1=1 then (lookS l).2.2 else -1,true):=by
 have h:=of_decide_eq_false h
 unfold mendV
 by_cases h0:(lookS l).1=0
 ·rw [if_pos h0,fixS_eq hs (by omega),if_neg (by omega),if_neg (by omega)]
 ·rw [if_neg h0,if_neg h]
  have h1:(lookS l).1=1:=by
   rcases look_states l with k | k | ⟨k,_⟩
   ·exact absurd k h0
   ·exact absurd k h
   ·exact k
  rw [if_pos h1,if_pos h1]
theorem getD_B {B:List (List (List UInt8))} {i:Nat} (h:i<B.length):B.getD i []=B[i]:=by rw [List.getD_eq_getElem?_getD,List.getElem?_eq_getElem h];rfl
theorem sJoinRef (x):M.le (S_ref14_Join fcTextR.sh fcBlocks.sh fcMend.sh fcTextsR.sh x) (fcJoin.sh x):=M.le_detR fun h=>by
 obtain ⟨fa,fb⟩:=x
 obtain ⟨ha,hb⟩:=h
 change List.length fa<65536 at ha
 change List.length fb<65536 at hb
 unfold S_ref14_Join
 show M.Ret _ fun y=>y=joinV fa fb
 unfold joinV
 dsimp only
 rw [show fcBlocks.sh fa=M.pure ((blocksV fa).2,(blocksV fa).1) from M.det_true (show fa.length<65536 from ha) _,M.bind_pure,show fcBlocks.sh fb=M.pure ((blocksV fb).2,(blocksV fb).1) from M.det_true (show fb.length<65536 from hb) _,M.bind_pure]
 dsimp only
 have hal:=(blocksV_out fa).2
 have hbl:=(blocksV_out fb).2
 have hsa:=blocks_shaped fa
 have hsb:=blocks_shaped fb
 cases hA:(blocksV fa).1 with
 | false=>
  rw [if_pos (show (!false||!(blocksV fb).1||decide (Int.ofNat (blocksV fa).2.length≠Int.ofNat (blocksV fb).2.length))=true from rfl)]
  exact M.ret_pure.2 (if_pos (.inl rfl)).symm
 | true=>
 cases hB:(blocksV fb).1 with
 | false=>
  rw [if_pos (show (!true||!false||decide (Int.ofNat (blocksV fa).2.length≠Int.ofNat (blocksV fb).2.length))=true from rfl)]
  exact M.ret_pure.2 (if_pos (.inr (.inl rfl))).symm
 | true=>
 generalize (blocksV fa).2=A at hal hsa
 generalize (blocksV fb).2=B at hbl hsb
 by_cases hl:A.length=B.length
 ·have hd:decide (Int.ofNat A.length≠Int.ofNat B.length)=false:=decide_eq_false (by simp only [ofNat_def];omega)
  rw [hd,if_neg (show ¬(!true||!true||false)=true by decide),if_neg (by rintro (k | k | k);cases k;cases k;exact k hl),M.ret_bind]
  refine M.ret_loopN A.length (fun i s=>s.1=A∧s.2.1=B∧s.2.2.1=(i:Int)∧s.2.2.2.1.length=i∧(∀ l∈s.2.2.2.1,shaped (wideL l) l)∧joinS (A.drop i) (B.drop i) s.2.2.2.1=joinS A B []) ⟨rfl,rfl,rfl,rfl,by simp,rfl⟩ ?_ ?_
  ·rintro i hi ⟨s1,s2,s3,o,u'⟩ ⟨e1,e2,e3,o1,o3,o2⟩
   change s1=A at e1
   change s2=B at e2
   change s3=_ at e3
   change o.length=i at o1
   change ∀ l∈o,_ at o3
   change joinS (A.drop i) (B.drop i) o=_ at o2
   subst e1 e2 e3
   have hiB:i<s2.length:=by omega
   have hw:=wrap64 (n:=(i:Int)+1) (by omega) (by omega)
   have zi:((i:Int)).toNat=i:=rfl
   have hla:=hsa _ (List.getElem_mem hi)
   have hlb:=hsb _ (List.getElem_mem hiB)
   have hdA:s1.drop i=s1[i]::s1.drop (i+1):=List.drop_eq_getElem_cons hi
   have hdB:s2.drop i=s2[i]::s2.drop (i+1):=List.drop_eq_getElem_cons hiB
   rw [hdA,hdB,joinS_cons] at o2
   have htx:∀ l,shaped (wideL l) l→fcTextR.sh (fixS l)=M.pure (textS (fixS l)):=fun l hl=>by
    have hf:=fixS_shaped hl
    exact M.det_true (show (fixS l).length<65536∧∀ r∈fixS l,r.length<65535 from ⟨by have:=hf.2.1;omega,fun r hr=>by have:=(hf.2.2.2.2 r hr).1;have:=hf.2.2.2.1;omega⟩) _
   simp only [ofNat_def,lt_len hi,if_true,zi,getD_B hi,getD_B hiB]
   rw [M.req_true ⟨by omega,by omega⟩,show fcMend.sh s1[i]=M.pure (mendV s1[i]) from M.det_true (show shaped (wideL s1[i]) s1[i] from hla) _,M.bind_pure,M.req_true ⟨by omega,by omega⟩,show fcMend.sh s2[i]=M.pure (mendV s2[i]) from M.det_true (show shaped (wideL s2[i]) s2[i] from hlb) _,M.bind_pure]
   have fin:∀ (p:List (List UInt8)) (P:Step (List (List Str)×List (List Str)×Int×List (List Str)×Unit) (Step (List (List Str)×Unit) (List Str×Int))→Prop),P (.next (s1,s2,((i+1:Nat):Int),o++[p],()))→
     M.Ret (M.bind (M.pure (Step.next (s1,s2,(i:Int),p,o,()))) (Step.go fun (σ:List (List Str)×List (List Str)×Int×List Str×List (List Str)×Unit)=>M.req (lenLe (Add.add (List.length σ.2.2.2.2.1) (Add.add 0 1))) (M.pure (Step.next (σ.1,σ.2.1,IntKind.wrap .i64 (Add.add σ.2.2.1 1),σ.2.2.2.2.1++[σ.2.2.2.1],())):M (Step (List (List Str)×List (List Str)×Int×List (List Str)×Unit) (Step (List (List Str)×Unit) (List Str×Int)))))) P:=fun p P hP=>by
    rw [M.bind_pure,M.go_next]
    dsimp only
    rw [M.ret_req]
    refine ⟨by unfold lenLe;simp only [add_defN];omega,M.ret_pure.2 ?_⟩
    rw [add_def,hw]
    exact hP
   have hn:∀ p:List (List UInt8),shaped (wideL p) p→joinS (s1.drop (i+1)) (s2.drop (i+1)) (o++[p])=joinS s1 s2 []→(s1=s1∧s2=s2∧((i+1:Nat):Int)=((i+1:Nat):Int)∧(o++[p]).length=i+1∧(∀ l∈o++[p],shaped (wideL l) l)∧joinS (s1.drop (i+1)) (s2.drop (i+1)) (o++[p])=joinS s1 s2 []):=fun p hp hj=>
    ⟨rfl,rfl,rfl,by simp;omega,fun l hl=>by
     rcases List.mem_append.1 hl with hl | hl
     ·exact o3 l hl
     ·rw [List.mem_singleton] at hl
      rw [hl]
      exact hp,hj⟩
   have hfw:∀ l,shaped (wideL l) l→shaped (wideL (fixS l)) (fixS l):=fun l hl=>by
    have:=fixS_shaped hl
    rw [this.wide]
    exact this
   cases l1:lostS s1[i] with
   | true=>
    rw [l1] at o2
    cases l2:lostS s2[i] with
    | true=>
     rw [l2,if_pos ⟨rfl,rfl⟩] at o2
     rw [mendV_lost l1,mendV_lost l2]
     dsimp only
     rw [if_pos (by rfl),M.bind_pure,M.bind_pure,M.bind_pure,M.bind_pure]
     refine M.ret_pure.2 ?_
     show M.Ret (M.pure (([],141):List (List UInt8)×Int)) _
     refine M.ret_pure.2 ?_
     rw [←o2,if_pos (by decide)]
    | false=>
     rw [l2,if_neg (fun k=>by cases k.2),if_pos rfl] at o2
     rw [mendV_lost l1,mendV_good hlb l2]
     dsimp only
     rw [if_neg (by decide),if_pos (by rfl)]
     exact fin _ _ (hn _ (hfw _ hlb) o2)
   | false=>
    rw [l1,if_neg (fun k=>by cases k.1),if_neg (by decide)] at o2
    rw [mendV_good hla l1]
    cases l2:lostS s2[i] with
    | true=>
     rw [l2,if_neg (fun k=>by cases k.1)] at o2
     rw [mendV_lost l2]
     dsimp only
     rw [if_neg (by decide),if_neg (by decide)]
     rw [show gdo false (fcTextR.sh (fixS s1[i])) []=M.pure [] from rfl,M.bind_pure,show gdo false (fcTextR.sh []) []=M.pure [] from rfl,M.bind_pure,if_neg (show ¬(false&&_)=true from Bool.false_ne_true)]
     exact fin _ _ (hn _ (hfw _ hla) o2)
    | false=>
     rw [l2] at o2
     rw [mendV_good hlb l2]
     dsimp only
     rw [if_neg (by decide),if_neg (by decide),htx _ hla,htx _ hlb]
     simp only [M.gdo_pure,if_true,M.bind_pure,Bool.true_and]
     by_cases c:textS (fixS s1[i])≠textS (fixS s2[i])
     ·rw [if_pos ⟨rfl,c⟩] at o2
      rw [if_pos (decide_eq_true c),M.bind_pure]
      refine M.ret_pure.2 ?_
      show M.Ret (M.pure (([],143):List (List UInt8)×Int)) _
      refine M.ret_pure.2 ?_
      rw [←o2,if_pos (by decide)]
     ·rw [if_neg (fun k=>c k.2)] at o2
      rw [if_neg (by rw [decide_eq_true_iff];exact c)]
      exact fin _ _ (hn _ (hfw _ hla) o2)
  ·rintro ⟨s1,s2,s3,o,u'⟩ ⟨e1,e2,e3,o1,o3,o2⟩
   change s1=A at e1
   change s2=B at e2
   change s3=_ at e3
   change o.length=_ at o1
   change ∀ l∈o,_ at o3
   change joinS (A.drop _) (B.drop _) o=_ at o2
   subst e1 e2 e3
   have ho2:joinS s1 s2 []=(0,o):=by
    rw [←o2,List.drop_length]
    rfl
   have hv:(if (joinS s1 s2 []).1≠0 then (([],(joinS s1 s2 []).1):List (List UInt8)×Int) else if (textsV (joinS s1 s2 []).2).2=false then ([],142) else ((textsV (joinS s1 s2 []).2).1,0))=if (textsV o).2=false then ([],142) else ((textsV o).1,0):=by
    rw [ho2]
    exact if_neg fun k=>k rfl
   rw [hv]
   dsimp only
   rw [if_neg (by simp [ofNat_def]),M.bind_pure]
   refine M.ret_pure.2 ?_
   show M.Ret (M.bind (fcTextsR.sh o) _) _
   rw [show fcTextsR.sh o=M.pure (textsV o) from M.det_true (show o.length<65536∧∀ l∈o,shaped (wideL l) l from ⟨by omega,o3⟩) _,M.bind_pure]
   cases ht:(textsV o).2 with
   | false=>exact M.ret_pure.2 rfl
   | true=>exact M.ret_pure.2 rfl
 ·have hd:decide (Int.ofNat A.length≠Int.ofNat B.length)=true:=decide_eq_true (by simp only [ofNat_def];omega)
  rw [hd,if_pos (show (!true||!true||true)=true by decide),if_pos (.inr (.inr hl))]
  exact M.ret_pure.2 rfl
end Go.Fer
namespace Go.Fer
open M (Step)
set_option linter.unusedVariables false
set_option linter.unusedSimpArgs false
set_option maxRecDepth 100000
theorem ex_write:writeV [[97,98],[99]]=([34,97,98,70,10,33,99,32,100,10,35,69,98,43,10,10],0):=by decide +kernel
theorem ex_read:readV [34,97,120,70,10,33,99,32,100,10,35,69,98,43,10,10]=([[97,98],[99]],[2],0):=by decide +kernel
theorem ex_check:checkFV [34,97,120,70,10,33,120,32,100,10,35,69,98,43,10,10]=(1,1,0):=by decide +kernel
abbrev fcWorks:FC:=⟨.unit,.bool,fun _=>True,fun _=>true⟩
theorem sWorks (x):M.le (S_law14_works fcWriteP.sh fcReadF.sh fcDamage.sh fcCheckF.sh fcSameT.sh fcSameI.sh x) (fcWorks.sh x):=M.le_det fun _=>by
 unfold S_law14_works
 have hr:readL [34,97,120,70,10,33,99,32,100,10,35,69,98,43,10,10]=([[97,98],[99]],[0],0):=by
  unfold readL
  rw [ex_read]
  rfl
 have w:fcWriteP.sh [[97,98],[99]]=M.pure ([34,97,98,70,10,33,99,32,100,10,35,69,98,43,10,10],0):=(M.det_true (show ([[97,98],[99]]:List (List UInt8)).length<2 ^ 63 by decide) _).trans (congrArg M.pure ex_write)
 have r:fcReadF.sh [34,97,120,70,10,33,99,32,100,10,35,69,98,43,10,10]=M.pure ([[97,98],[99]],[0],0):=(M.det_true (show ([34,97,120,70,10,33,99,32,100,10,35,69,98,43,10,10]:List UInt8).length<65536 by decide) _).trans (congrArg M.pure hr)
 have d:fcDamage.sh [34,97,120,70,10,33,99,32,100,10,35,69,98,43,10,10]=M.pure ([2],0):=(M.det_true (show ([34,97,120,70,10,33,99,32,100,10,35,69,98,43,10,10]:List UInt8).length<65536 by decide) _).trans (congrArg M.pure (congrArg (·.2) ex_read))
 have c:fcCheckF.sh [34,97,120,70,10,33,120,32,100,10,35,69,98,43,10,10]=M.pure (1,1,0):=(M.det_true (show ([34,97,120,70,10,33,120,32,100,10,35,69,98,43,10,10]:List UInt8).length<65536 by decide) _).trans (congrArg M.pure ex_check)
 have st:fcSameT.sh ([[97,98],[99]],[[97,98],[99]])=M.pure true:=M.det_true (show ([[97,98],[99]]:List (List UInt8)).length<2 ^ 63∧([[97,98],[99]]:List (List UInt8)).length<2 ^ 63 from ⟨by decide,by decide⟩) _
 have si:∀ l:List Int,l.length<2 ^ 63→fcSameI.sh (l,l)=M.pure true:=fun l hl=>(M.det_true (show l.length<2 ^ 63∧l.length<2 ^ 63 from ⟨hl,hl⟩) _).trans (congrArg M.pure (decide_eq_true rfl))
 rw [w,M.bind_pure,r,M.bind_pure,d,M.bind_pure,c,M.bind_pure]
 dsimp only
 rw [st,M.gdo_pure,M.bind_pure,si _ (by decide),M.gdo_pure,M.bind_pure,si _ (by decide),M.gdo_pure,M.bind_pure]
 rfl
theorem works_sh:fcWorks.sh ()=M.pure true:=M.det_true trivial _
theorem sameT_sh {a b:List (List UInt8)} (ha:a.length<2 ^ 63) (hb:b.length<2 ^ 63):fcSameT.sh (a,b)=M.pure (decide (a=b)):=M.det_true (show a.length<2 ^ 63∧b.length<2 ^ 63 from ⟨ha,hb⟩) _
theorem textsV_len {x:List (List (List UInt8))} (h:∀ l∈x,l.length≤9):(textsV x).1.length≤9*x.length:=by
 unfold textsV
 cases hq:outerT x ([],[]) with
 | none=>exact Nat.zero_le _
 | some s=>
  have:=outerT_len x _ s h hq
  simpa using this
theorem joinS_shaped:∀ (X Y o:List (List (List UInt8))),(∀ l∈X,shaped (wideL l) l)→(∀ l∈Y,shaped (wideL l) l)→(∀ l∈o,shaped (wideL l) l)→(∀ l∈(joinS X Y o).2,shaped (wideL l) l)∧(joinS X Y o).2.length≤o.length+X.length
 | [],Y,o,_,_,h=>by
  have e:joinS [] Y o=(0,o):=by cases Y<;>rfl
  rw [e]
  exact ⟨h,Nat.le_refl _⟩
 | x::X,[],o,_,_,h=>by
  have e:joinS (x::X) [] o=(0,o):=rfl
  rw [e]
  exact ⟨h,by show o.length≤_;omega⟩
 | x::X,y::Y,o,hX,hY,h=>by
  have hf:∀ l,shaped (wideL l) l→shaped (wideL (fixS l)) (fixS l):=fun l hl=>by
   have:=fixS_shaped hl
   rw [this.wide]
   exact this
  have hp:∀ p,shaped (wideL p) p→(∀ l∈o++[p],shaped (wideL l) l):=fun p hp l hl=>by
   rcases List.mem_append.1 hl with hl | hl
   ·exact h l hl
   ·rw [List.mem_singleton] at hl
    rw [hl];exact hp
  have i1:=joinS_shaped X Y (o++[fixS x]) (fun l hl=>hX l (List.mem_cons_of_mem _ hl)) (fun l hl=>hY l (List.mem_cons_of_mem _ hl)) (hp _ (hf _ (hX x (by simp))))
  have i2:=joinS_shaped X Y (o++[fixS y]) (fun l hl=>hX l (List.mem_cons_of_mem _ hl)) (fun l hl=>hY l (List.mem_cons_of_mem _ hl)) (hp _ (hf _ (hY y (by simp))))
  rw [joinS_cons]
  have e:∀ p:List (List UInt8),(o++[p]).length+X.length=o.length+(x::X).length:=fun p=>by simp;omega
  split
  ·exact ⟨by simp,Nat.zero_le _⟩
  ·split
   ·exact ⟨i2.1,by rw [←e (fixS y)];exact i2.2⟩
   ·split
    ·exact ⟨by simp,Nat.zero_le _⟩
    ·exact ⟨i1.1,by rw [←e (fixS x)];exact i1.2⟩
theorem joinV_len (a b:List UInt8):(joinV a b).1.length≤9*a.length:=by
 have hb:=(blocksV_out a).2
 have hj:=joinS_shaped (blocksV a).2 (blocksV b).2 [] (blocks_shaped a) (blocks_shaped b) (by simp)
 unfold joinV
 split
 ·exact Nat.zero_le _
 ·split
  ·exact Nat.zero_le _
  ·split
   ·exact Nat.zero_le _
   ·have:=textsV_len (x:=(joinS (blocksV a).2 (blocksV b).2 []).2) fun l hl=>(hj.1 l hl).2.1
    have h2:=hj.2
    simp only [List.length_nil,Nat.zero_add] at h2
    show (textsV _).1.length≤_
    omega
theorem lawJoined (x:List UInt8×List UInt8):S_law14_FilesJoined fcWorks.sh fcSameT.sh fcJoin.sh fcJoin.sh x=M.pure true:=by
 obtain ⟨a,b⟩:=x
 unfold S_law14_FilesJoined
 dsimp only
 by_cases hl:a.length > 4000∨b.length > 4000
 ·rw [if_pos (by rw [Bool.or_eq_true,decide_eq_true_iff,decide_eq_true_iff,ofNat_def,ofNat_def];omega),works_sh,M.bind_pure]
 ·rw [if_neg (by rw [Bool.or_eq_true,decide_eq_true_iff,decide_eq_true_iff,ofNat_def,ofNat_def];omega)]
  have j:fcJoin.sh (a,b)=M.pure (joinV a b):=M.det_true (show a.length<65536∧b.length<65536 by omega) _
  have h1:=joinV_len a b
  rw [j,M.bind_pure,M.bind_pure,sameT_sh (by omega) (by omega),works_sh]
  simp only [decide_true,M.gdo_pure,M.bind_pure,Bool.and_true,if_true]
end Go.Fer
namespace Go.Fer
open M (Step)
set_option linter.unusedVariables false
set_option linter.unusedSimpArgs false
theorem sChunkIO (l0:Nat) (s:List (List UInt8)) (hs:s.length<65536):M.Ret (S_io_chunk (l0,s,8,(l0,chunkS (some s,some 8),[],false),())) fun y=>y.1.2.2.2=false→chunkS (some s,some 8) y.1.2.2.1:=by
 have hS:∀ L,chunkS (some s,some 8) L↔L=chunks s:=fun L=>⟨fun ⟨l,e,_,h⟩=>by cases e;exact h,fun e=>⟨s,rfl,hs,e⟩⟩
 generalize chunkS (some s,some 8)=S at *
 unfold S_io_chunk
 dsimp only
 refine M.ret_loop (fun σ=>∃ k:Nat,k≤(chunks s).length∧σ=(l0,s,8,((8*k:Nat):Int),(l0,S,(chunks s).take k,false),())) (fun σ=>(s.length+8 - σ.2.2.2.1.toNat)) ?_ _ ⟨0,Nat.zero_le _,rfl⟩
 rintro σ ⟨k,hk,rfl⟩
 dsimp only
 by_cases hk8:8*k<s.length
 ·have hkc:=chunks_lt.2 hk8
  have hd:decide (((8*k:Nat):Int)<(s.length:Int))=true:=decide_eq_true (by omega)
  have hz:∀ n:Nat,((n:Int)).toNat=n:=fun _=>rfl
  have hdl:(List.drop (8*k) s).length=s.length - 8*k:=List.length_drop ..
  have hm:(if (((List.drop (8*k) s).length:Nat):Int)<8 then (((List.drop (8*k) s).length:Nat):Int) else 8)=((min 8 (s.length - 8*k):Nat):Int):=by rw [hdl];split<;>omega
  have hw:=wrap64 (n:=((8*k:Nat):Int)+((min 8 (s.length - 8*k):Nat):Int)) (by omega) (by omega)
  have hw2:=wrap64 (n:=((8*k:Nat):Int)+8) (by omega) (by omega)
  have ez:(((8*k:Nat):Int)+((min 8 (s.length - 8*k):Nat):Int)).toNat=8*k+min 8 (s.length - 8*k):=by omega
  have hc:List.drop (8*k) (List.take (8*k+min 8 (s.length - 8*k)) s)=(chunks s)[k]:=by
   rw [chunks_get hkc,List.drop_take]
   have:8*k+min 8 (s.length - 8*k) - 8*k=min 8 (s.length - 8*k):=by omega
   rw [this]
   rcases Nat.lt_or_ge 8 (s.length - 8*k) with h | h
   ·rw [Nat.min_eq_left (by omega)]
   ·rw [Nat.min_eq_right h,List.take_of_length_le (by rw [hdl];exact Nat.le_refl _),List.take_of_length_le (by rw [hdl];exact h)]
  simp only [ofNat_def,hd,if_true,hz,List.take_length,hm,add_def,hw,hw2,ez,hc]
  rw [M.ret_req]
  refine ⟨⟨by omega,by omega,Int.le_refl _⟩,?_⟩
  rw [M.ret_req]
  refine ⟨⟨by omega,by omega,trivial,by omega⟩,?_⟩
  rw [M.ret_bind,M.ret_req]
  refine ⟨⟨trivial,trivial,(chunks s).drop (k+1),(hS _).2 ?_⟩,⟨true,trivial⟩,fun y _=>?_⟩
  ·rw [←List.drop_eq_getElem_cons hkc,List.take_append_drop]
  ·cases y with
   | false=>
    simp only [Bool.not_false,if_true,M.bind_pure]
    exact M.ret_pure.2 fun h=>by cases h
   | true=>
    simp only [Bool.not_true,Bool.false_eq_true,if_false]
    refine M.ret_pure.2 ⟨⟨k+1,hkc,?_⟩,?_⟩
    ·rw [List.take_add_one,List.getElem?_eq_getElem hkc,show ((8*(k+1):Nat):Int)=((8*k:Nat):Int)+8 by omega]
     rfl
    ·show s.length+8 - (((8*k:Nat):Int)+8).toNat<s.length+8 - (((8*k:Nat):Int)).toNat
     omega
 ·have hd:decide (((8*k:Nat):Int)<(s.length:Int))=false:=decide_eq_false (by omega)
  simp only [ofNat_def,hd,Bool.false_eq_true,if_false,M.bind_pure]
  refine M.ret_pure.2 fun _=>(hS _).2 ?_
  refine List.take_of_length_le ?_
  rcases Nat.lt_or_ge k (chunks s).length with h | h
  ·exact absurd (chunks_lt.1 h) hk8
  ·exact h
end Go.Fer
namespace Go.Fer
open M (Step)
set_option linter.unusedVariables false
def S_io_colf (x:List (List Int)×Int×Int×Unit):M (List Int×Unit):=
 M.bind (M.req ((0:Int)≤0∧0≤IntKind.wrap .i64 (Int.ofNat (List.length x.1) - x.2.2.1)∧IntKind.wrap .i64 (Int.ofNat (List.length x.1) -
 x.2.2.1)≤Int.ofNat (List.length x.1)) (M.loop (fun (σ:Int×List (List Int)×Int×Int×List Int×Unit)=>if decide (σ.2.2.2.1<σ.2.2.1)=
 true then M.req (0≤σ.2.2.2.1∧σ.2.2.2.1<Int.ofNat (List.length σ.2.1)) (M.req (0≤σ.1∧σ.1<Int.ofNat (List.length (List.getD σ.2.1
 (Int.toNat σ.2.2.2.1) []))) (M.req (lenLe (Add.add (List.length σ.2.2.2.2.1) (Add.add 0 1))) (M.pure (Step.next (σ.1,σ.2.1,σ.2.2.1,IntKind.wrap
 .i64 (Add.add σ.2.2.2.1 1),σ.2.2.2.2.1++[List.getD (List.getD σ.2.1 (Int.toNat σ.2.2.2.1) []) (Int.toNat σ.1) 0],()))))) else M.bind (M.pure
 (Step.next (σ.2.2.2.2.1,()))) fun r=>M.pure (Step.done r)) (x.2.1,List.take (Int.toNat (IntKind.wrap .i64 (Int.ofNat (List.length x.1) -
 x.2.2.1))) x.1,Int.ofNat (List.length (List.take (Int.toNat (IntKind.wrap .i64 (Int.ofNat (List.length x.1) - x.2.2.1))) x.1)),0,[],())))
 (Step.go fun (σ:List Int×Unit)=>M.pure (σ.1,()))
end Go.Fer
namespace Go.Fer
open M (Step)
set_option linter.unusedVariables false
set_option linter.unusedSimpArgs false
def shColF (x:List (List Int)×Int×Int×Unit):M (List Int×Unit):=M.det (preCol x.1 x.2.1 x.2.2.1) (colI (x.1.take (x.1.length - x.2.2.1.toNat)) x.2.1,())
theorem sColF (x):M.le (S_io_colf x) (shColF x):=M.le_det fun h=>by
 obtain ⟨l,c,w,u⟩:=x
 obtain ⟨h1,⟨h2,h3⟩,h4,h5⟩:preCol l c w:=h
 unfold S_io_colf
 dsimp only
 have hw:=wrap64 (n:=(l.length:Int) - w) (by omega) (by omega)
 simp only [ofNat_def,hw]
 have e:((l.length:Int) - w).toNat=l.length - w.toNat:=by omega
 rw [M.req_true ⟨Int.le_refl _,by omega,by omega⟩,e]
 generalize hk:l.take (l.length - w.toNat)=k
 have hkl:k.length<65536:=by rw [←hk];simp;omega
 have hkr:∀ r∈k,c<(r.length:Int):=fun r hr=>h5 r (by rw [←hk] at hr;exact List.mem_of_mem_take hr)
 rw [M.loop_list k (fun i (o:List Int)=>(c,k,(k.length:Int),(i:Int),o,())) (fun r o=>.next (o++[r.getD c.toNat 0])) (fun o=>.next (o,())) (fun i o=>o.length=i) [] ?_ ?_ ?_ ?_]
 ·rw [foldS_next,M.bind_pure,M.go_next]
  dsimp only
  rw [show k.foldl (fun o r=>o++[r.getD c.toNat 0]) []=colI k c from by rw [foldl_map_app];rfl]
 ·rfl
 ·rfl
 ·intro i hi o ho
  have hw2:=wrap64 (n:=(i:Int)+1) (by omega) (by omega)
  have hr:=hkr _ (List.getElem_mem hi)
  refine ⟨?_,fun o' ho'=>?_⟩
  ·simp only [ofNat_def,lt_len hi,if_true,getD_nat hi,in_len hi,M.req_True,add_def,add_defN,hw2]
   rw [M.req_true ⟨h4,hr⟩,M.req_true (by unfold lenLe;omega)]
   rfl
  ·simp only [Step.next.injEq] at ho'
   subst ho'
   simp [ho]
 ·intro o ho
  simp
end Go.Fer
namespace Go.Fer
open Go
theorem cut2_index:∀ s:List UInt8,(cut2 s=none∧Lib.index s [10,10]=-1)∨∃ t r,cut2 s=some (t,r)∧Lib.index s [10,10]=(t.length:Int)∧s=t++10::10::r
 | []=>.inl ⟨rfl,rfl⟩
 | b::l=>by
  unfold cut2 Lib.index
  by_cases hc:b=10∧l.head?=some 10
  ·obtain ⟨rfl,hl⟩:=hc
   cases l with
   | nil=>cases hl
   | cons c l=>
    simp only [List.head?_cons,Option.some.injEq] at hl
    subst hl
    exact .inr ⟨[],l,by simp,by simp,rfl⟩
  ·have hp:List.isPrefixOf [10,10] (b::l)=false:=by
    cases hq:List.isPrefixOf [10,10] (b::l) with
    | false=>rfl
    | true=>
     cases l with
     | nil=>simp [List.isPrefixOf] at hq
     | cons c l=>
      simp [List.isPrefixOf] at hq
      exact absurd ⟨hq.1.symm,by rw [←hq.2];rfl⟩ hc
   rw [if_neg hc,hp]
   rcases cut2_index l with ⟨h1,h2⟩ | ⟨t,r,h1,h2,h3⟩
   ·rw [h1,h2]
    exact .inl ⟨rfl,rfl⟩
   ·rw [h1,h2]
    refine .inr ⟨b::t,r,rfl,?_,by rw [h3];rfl⟩
    have:((t.length:Int) == -1)=false:=by rw [beq_eq_false_iff_ne];omega
    rw [this]
    simp
theorem cut_eq (s:List UInt8):Lib.cut s [10,10]=match cut2 s with | some p=>(p.1,p.2,true) | none=>(s,[],false):=by
 unfold Lib.cut
 rcases cut2_index s with ⟨h1,h2⟩ | ⟨t,r,h1,h2,h3⟩
 ·rw [h1,h2]
  rfl
 ·rw [h1,h2,if_pos (by omega)]
  have e:((t.length:Int)).toNat=t.length:=rfl
  rw [e,h3]
  simp
theorem lines_index:∀ s:List UInt8,(Lib.index s [10]=-1∧linesOf s=[s])∨∃ t r,s=t++10::r∧Lib.index s [10]=(t.length:Int)∧linesOf s=t::linesOf r
 | []=>.inl ⟨rfl,rfl⟩
 | b::l=>by
  unfold Lib.index
  by_cases hb:b=10
  ·subst hb
   exact .inr ⟨[],l,rfl,by simp [List.isPrefixOf],linesOf_ten l⟩
  ·have hp:List.isPrefixOf [10] (b::l)=false:=by
    simp [List.isPrefixOf]
    exact fun k=>hb k.symm
   rw [hp]
   obtain ⟨x,xs,e1,e2⟩:=linesOf_cons hb l
   rcases lines_index l with ⟨h1,h2⟩ | ⟨t,r,h1,h2,h3⟩
   ·rw [h1]
    refine .inl ⟨rfl,?_⟩
    rw [e1] at h2
    cases h2
    exact e2
   ·rw [h2]
    refine .inr ⟨b::t,r,by rw [h1];rfl,?_,?_⟩
    ·have:((t.length:Int) == -1)=false:=by rw [beq_eq_false_iff_ne];omega
     rw [this]
     simp
    ·rw [e1] at h3
     cases h3
     exact e2
theorem splitK_lines:∀ (n:Nat) (s:List UInt8),s.length≤n→Lib.splitK [10] 0 (Lib.count s [10]) s=linesOf s:=by
 intro n
 induction n with
 | zero=>
  intro s h
  have:s=[]:=List.eq_nil_of_length_eq_zero (by omega)
  subst this
  rfl
 | succ n ih=>
  intro s h
  rcases lines_index s with ⟨h1,h2⟩ | ⟨t,r,h1,h2,h3⟩
  ·rw [Lib.count_miss h1,h2]
   rfl
  ·rw [Lib.count_hit (by simp) h2,h3,Nat.add_comm,Lib.splitK,h2]
   have:((t.length:Int) == -1)=false:=by rw [beq_eq_false_iff_ne];omega
   rw [this]
   have e:((t.length:Int)).toNat=t.length:=rfl
   have ed:s.drop (t.length+1)=r:=by rw [h1];simp
   have et:s.take t.length=t:=by rw [h1];simp
   simp only [Bool.false_eq_true,if_false,e,Nat.add_zero,List.length_cons,List.length_nil,Nat.zero_add,ed,et]
   rw [ih r (by rw [h1] at h;simp only [List.length_append,List.length_cons] at h;omega)]
theorem split_eq (s:List UInt8):Sk.splitV s [10]=linesOf s:=by
 unfold Sk.splitV
 rw [Lib.splitB_data]
 exact splitK_lines s.length s (Nat.le_refl _)
theorem rep_eq (s:List UInt8):∀ n,Lib.repeatL s n=repL s n
 | 0=>rfl
 | n+1=>by
  have:=rep_eq s n
  unfold repL at this ⊢
  rw [List.replicate_succ,List.flatten_cons,←this]
  rfl
namespace Sk
open Go.Proofs
set_option maxRecDepth 100000
theorem spec_k29:FnSpec Tryd.prog 29 t9 t4 fcIsT.sh:=spec_isText
theorem spec_k49:FnSpec Tryd.prog 49 (.prod t9 t9) (.prod t9 (.prod t9 t4)) fcCutP.sh:=spec_cut.weaken fun x=>M.le_det fun h=>by
 obtain ⟨s,sep⟩:=x
 obtain ⟨rfl,h2⟩:=h
 refine (M.det_true (show s.length<4294967281 from h2) _).trans (congrArg M.pure ?_)
 exact cut_eq s
theorem spec_k50:FnSpec Tryd.prog 50 (.prod t9 t9) t22 fcSplitP.sh:=spec_split.weaken fun x=>M.le_det fun h=>by
 obtain ⟨s,sep⟩:=x
 obtain ⟨rfl,h2⟩:=h
 refine (M.det_true (show s.length<4294967281∧1≤([10]:List UInt8).length from ⟨h2,by decide⟩) _).trans (congrArg M.pure ?_)
 exact split_eq s
theorem spec_k69:FnSpec Tryd.prog 69 (.prod t9 t3) t9 fcRep.sh:=spec_rep.weaken fun x=>M.le_det fun h=>by
 refine (M.det_true h _).trans (congrArg M.pure ?_)
 exact rep_eq _ _
abbrev t55r:Ty:=.raws t5
abbrev t63r:Ty:=.slice t55r
abbrev t59r:Ty:=.slice t63r
def tabR:List (Nat×Ty):=[(55,t55r),(63,t63r),(59,t59r)]++tab
theorem tabROk:TabOk Tryd.prog (tabT tabR):=tabT_ok (by kernel_rfl)
def b_cc67:Code:=Tryd.f67.body.getD .skip
theorem b_cc67_ok:Tryd.f67.body=some b_cc67:=by kernel_rfl
def ioc_ccheck:IOC:=⟨⟨[(0,.loc 100001 0)],[(100001,.cells t84 [.nos 100001,.own 100002]),(100002,.arr t5)]⟩,⟨[],[(100001,.cells t84 [.nos 100001,.own 100002]),(100002,.arr t5)]⟩,[],1,shCopyC⟩
theorem io_ccheck:IoSpec Tryd.prog noU 67 ioc_ccheck:=copy_io (n:=82) (ρ:=Tryd.lays105_ren) { Tryd.lays105 with } { Tryd.Builder_Extra_105 with } (by kernel_rfl) (callFunc_enter Tryd.func67 b_cc67_ok (by kernel_rfl))
end Sk
end Go.Fer
namespace Go.Fer.Sk
open Go.Proofs
open M (Step)
set_option maxRecDepth 100000
set_option linter.unusedVariables false
set_option linter.unusedSimpArgs false
def b_k35:Code:=Tryd.f35.body.getD .skip
theorem b_k35_ok:Tryd.f35.body=some b_k35:=by kernel_rfl
def Psi_k35 (k:Nat):Option KC:=none
theorem Psi_k35_ok:PsiOk Tryd.prog noU Psi_k35:=by
 intro k c h
 unfold Psi_k35 at h
 cases h
def ann_k35:Ann:=(.seq .leaf (.join ⟨[],[]⟩ (.seq .leaf (.block (.loop ⟨[(0,.val t9),(3,.val t3)],[]⟩ (.seq (.seq .leaf (.cond .leaf .leaf)) (.seq (.block (.seq .leaf (.cond (.seq .leaf .leaf) .leaf))) .leaf))))) (.seq .leaf .leaf)))
theorem l_k35 (x):funI noU (tabT tab) noPhi Psi_k35 Tryd.f35 b_k35 ann_k35 t9 t4 x=S_ref14_IsPlain  x:=by kernel_rfl
theorem spec_k35:FnSpec Tryd.prog 35 t9 t4 fcIsPlain.sh:=
 fn_ok mixOk tabOk noU_ok noPhi_ok Psi_k35_ok Tryd.func35 b_k35_ok (by kernel_rfl) fun x=>M.le_trans (M.le_of_eq (l_k35 x)) (sIsPlain x)
def b_k36:Code:=Tryd.f36.body.getD .skip
theorem b_k36_ok:Tryd.f36.body=some b_k36:=by kernel_rfl
def Psi_k36 (k:Nat):Option KC:=none
theorem Psi_k36_ok:PsiOk Tryd.prog noU Psi_k36:=by
 intro k c h
 unfold Psi_k36 at h
 cases h
def ann_k36:Ann:=(.seq .leaf (.seq .leaf (.join ⟨[(3,.val t9)],[]⟩ (.seq .leaf (.block (.loop ⟨[(0,.val t22),(3,.val t9),(4,.val t3)],[]⟩ (.seq (.seq .leaf (.cond .leaf .leaf)) (.seq (.block .leaf) .leaf))))) (.seq .leaf .leaf))))
theorem l_k36 (x):funI noU (tabT tab) noPhi Psi_k36 Tryd.f36 b_k36 ann_k36 t22 t9 x=S_ref14_text  x:=by kernel_rfl
theorem spec_k36:FnSpec Tryd.prog 36 t22 t9 fcTextR.sh:=
 fn_ok mixOk tabOk noU_ok noPhi_ok Psi_k36_ok Tryd.func36 b_k36_ok (by kernel_rfl) fun x=>M.le_trans (M.le_of_eq (l_k36 x)) (sTextR x)
def b_k58:Code:=Tryd.f58.body.getD .skip
theorem b_k58_ok:Tryd.f58.body=some b_k58:=by kernel_rfl
def Psi_k58 (k:Nat):Option KC:=none
theorem Psi_k58_ok:PsiOk Tryd.prog noU Psi_k58:=by
 intro k c h
 unfold Psi_k58 at h
 cases h
def ann_k58:Ann:=(.seq .leaf (.seq .leaf .leaf))
theorem l_k58 (x):funI noU (tabT tab) noPhi Psi_k58 Tryd.f58 b_k58 ann_k58 t3 t9 x=S_ref14_written  x:=by kernel_rfl
theorem spec_k58:FnSpec Tryd.prog 58 t3 t9 fcWritten.sh:=
 fn_ok mixOk tabOk noU_ok noPhi_ok Psi_k58_ok Tryd.func58 b_k58_ok (by kernel_rfl) fun x=>M.le_trans (M.le_of_eq (l_k58 x)) (sWrittenR x)
def b_k62:Code:=Tryd.f62.body.getD .skip
theorem b_k62_ok:Tryd.f62.body=some b_k62:=by kernel_rfl
def Psi_k62 (k:Nat):Option KC:=none
theorem Psi_k62_ok:PsiOk Tryd.prog noU Psi_k62:=by
 intro k c h
 unfold Psi_k62 at h
 cases h
def ann_k62:Ann:=(.seq .leaf (.seq .leaf .leaf))
theorem l_k62 (x):funI noU (tabT tab) noPhi Psi_k62 Tryd.f62 b_k62 ann_k62 t5 t3 x=S_ref14_value  x:=by kernel_rfl
theorem spec_k62:FnSpec Tryd.prog 62 t5 t3 fcValue.sh:=
 fn_ok mixOk tabOk noU_ok noPhi_ok Psi_k62_ok Tryd.func62 b_k62_ok (by kernel_rfl) fun x=>M.le_trans (M.le_of_eq (l_k62 x)) (sValue x)
def b_k59:Code:=Tryd.f59.body.getD .skip
theorem b_k59_ok:Tryd.f59.body=some b_k59:=by kernel_rfl
def Psi_k59 (k:Nat):Option KC:=if k=58 then some (.sc ⟨t3,t9,fcWritten.sh,true⟩) else if k=62 then some (.sc ⟨t5,t3,fcValue.sh,true⟩) else none
theorem Psi_k59_ok:PsiOk Tryd.prog noU Psi_k59:=by
 intro k c h
 unfold Psi_k59 at h
 split at h
 ·cases h;subst_vars;exact ⟨spec_k58,fun _ _=>M.det_det⟩
 split at h
 ·cases h;subst_vars;exact ⟨spec_k62,fun _ _=>M.det_det⟩
 cases h
def ann_k59:Ann:=(.seq .leaf (.seq .leaf (.join ⟨[(3,.val t3)],[]⟩ (.seq .leaf (.block (.loop ⟨[(0,.val t9),(3,.val t3),(4,.val t3)],[]⟩ (.seq (.seq .leaf (.cond .leaf .leaf)) (.seq (.block .leaf) .leaf))))) (.seq .leaf .leaf))))
theorem l_k59 (x):funI noU (tabT tab) noPhi Psi_k59 Tryd.f59 b_k59 ann_k59 t9 t9 x=S_ref14_check fcWritten.sh fcValue.sh x:=by kernel_rfl
theorem spec_k59:FnSpec Tryd.prog 59 t9 t9 fcCheckR.sh:=
 fn_ok mixOk tabOk noU_ok noPhi_ok Psi_k59_ok Tryd.func59 b_k59_ok (by kernel_rfl) fun x=>M.le_trans (M.le_of_eq (l_k59 x)) (sCheckR x)
def b_k60:Code:=Tryd.f60.body.getD .skip
theorem b_k60_ok:Tryd.f60.body=some b_k60:=by kernel_rfl
def Psi_k60 (k:Nat):Option KC:=none
theorem Psi_k60_ok:PsiOk Tryd.prog noU Psi_k60:=by
 intro k c h
 unfold Psi_k60 at h
 cases h
def ann_k60:Ann:=(.seq .leaf (.seq .leaf (.join ⟨[(5,.val t9)],[]⟩ (.seq .leaf (.block (.loop ⟨[(0,.val t22),(1,.val t3),(5,.val t9),(6,.val t3)],[]⟩ (.seq (.seq .leaf (.cond .leaf .leaf)) (.seq (.block .leaf) .leaf))))) (.seq .leaf .leaf))))
theorem l_k60 (x):funI noU (tabT tab) noPhi Psi_k60 Tryd.f60 b_k60 ann_k60 (.prod t22 t3) t9 x=S_ref14_column  x:=by kernel_rfl
theorem spec_k60:FnSpec Tryd.prog 60 (.prod t22 t3) t9 fcColumnR.sh:=
 fn_ok mixOk tabOk noU_ok noPhi_ok Psi_k60_ok Tryd.func60 b_k60_ok (by kernel_rfl) fun x=>M.le_trans (M.le_of_eq (l_k60 x)) (sColumnR x)
def b_k37:Code:=Tryd.f37.body.getD .skip
theorem b_k37_ok:Tryd.f37.body=some b_k37:=by kernel_rfl
def Psi_k37 (k:Nat):Option KC:=if k=58 then some (.sc ⟨t3,t9,fcWritten.sh,true⟩) else if k=59 then some (.sc ⟨t9,t9,fcCheckR.sh,true⟩) else if k=60 then some (.sc ⟨(.prod t22 t3),t9,fcColumnR.sh,true⟩) else none
theorem Psi_k37_ok:PsiOk Tryd.prog noU Psi_k37:=by
 intro k c h
 unfold Psi_k37 at h
 split at h
 ·cases h;subst_vars;exact ⟨spec_k58,fun _ _=>M.det_det⟩
 split at h
 ·cases h;subst_vars;exact ⟨spec_k59,fun _ _=>M.det_det⟩
 split at h
 ·cases h;subst_vars;exact ⟨spec_k60,fun _ _=>M.det_det⟩
 cases h
def ann_k37:Ann:=(.seq .leaf (.seq .leaf (.join ⟨[(0,.val t22),(3,.val t3)],[]⟩ (.seq .leaf (.block (.loop ⟨[(0,.val t22),(3,.val t3),(4,.val t3)],[]⟩ (.seq (.seq .leaf (.cond .leaf .leaf)) (.seq (.block .leaf) .leaf))))) (.seq .leaf (.join ⟨[(3,.val t3),(5,.own 5)],[(5,.arr t9)]⟩ (.seq .leaf (.block (.loop ⟨[(0,.val t22),(3,.val t3),(5,.own 5),(6,.val t3)],[(5,.arr t9)]⟩ (.seq (.seq .leaf (.cond .leaf .leaf)) (.join ⟨[(0,.val t22),(3,.val t3),(5,.own 5),(6,.val t3)],[(5,.arr t9)]⟩ (.block (.seq .leaf (.join ⟨[(0,.val t22),(3,.val t3),(5,.own 5),(6,.val t3),(7,.val t9)],[(5,.arr t9)]⟩ (.block (.loop ⟨[(0,.val t22),(3,.val t3),(5,.own 5),(6,.val t3),(7,.val t9)],[(5,.arr t9)]⟩ (.seq (.seq .leaf (.cond .leaf .leaf)) (.block .leaf)))) .leaf))) .leaf))))) (.seq .leaf (.join ⟨[(5,.own 5),(8,.val t9)],[(5,.arr t9)]⟩ (.seq .leaf (.block (.loop ⟨[(3,.val t3),(5,.own 5),(8,.val t9),(9,.val t3)],[(5,.arr t9)]⟩ (.seq (.seq .leaf (.cond .leaf .leaf)) (.seq (.block .leaf) .leaf))))) (.seq .leaf .leaf))))))))
theorem l_k37 (x):funI noU (tabT tab) noPhi Psi_k37 Tryd.f37 b_k37 ann_k37 t22 t22 x=S_ref14_block fcWritten.sh fcCheckR.sh fcColumnR.sh x:=by kernel_rfl
theorem spec_k37:FnSpec Tryd.prog 37 t22 t22 fcBlockR.sh:=
 fn_ok mixOk tabOk noU_ok noPhi_ok Psi_k37_ok Tryd.func37 b_k37_ok (by kernel_rfl) fun x=>M.le_trans (M.le_of_eq (l_k37 x)) (sBlockR x)
def b_k20:Code:=Tryd.f20.body.getD .skip
theorem b_k20_ok:Tryd.f20.body=some b_k20:=by kernel_rfl
def Psi_k20 (k:Nat):Option KC:=if k=35 then some (.sc ⟨t9,t4,fcIsPlain.sh,true⟩) else if k=36 then some (.sc ⟨t22,t9,fcTextR.sh,true⟩) else if k=37 then some (.sc ⟨t22,t22,fcBlockR.sh,true⟩) else none
theorem Psi_k20_ok:PsiOk Tryd.prog noU Psi_k20:=by
 intro k c h
 unfold Psi_k20 at h
 split at h
 ·cases h;subst_vars;exact ⟨spec_k35,fun _ _=>M.det_det⟩
 split at h
 ·cases h;subst_vars;exact ⟨spec_k36,fun _ _=>M.det_det⟩
 split at h
 ·cases h;subst_vars;exact ⟨spec_k37,fun _ _=>M.det_det⟩
 cases h
def ann_k20:Ann:=(.seq .leaf (.seq (.seq .leaf (.cond (.seq .leaf .leaf) .leaf)) (.join ⟨[(0,.val t22)],[]⟩ (.seq .leaf (.block (.loop ⟨[(0,.val t22),(4,.val t3)],[]⟩ (.seq (.seq .leaf (.cond .leaf .leaf)) (.seq (.block (.seq .leaf (.cond (.seq .leaf .leaf) .leaf))) .leaf))))) (.seq .leaf (.join ⟨[(5,.val t9)],[]⟩ (.seq .leaf (.block (.loop ⟨[(0,.val t22),(5,.val t9),(6,.val t3)],[]⟩ (.seq (.seq .leaf (.cond .leaf .leaf)) (.seq (.block .leaf) .leaf))))) (.seq .leaf .leaf))))))
theorem l_k20 (x):funI noU (tabT tab) noPhi Psi_k20 Tryd.f20 b_k20 ann_k20 t22 (.prod t9 t26) x=S_ref14_Write fcIsPlain.sh fcTextR.sh fcBlockR.sh x:=by kernel_rfl
theorem spec_k20:FnSpec Tryd.prog 20 t22 (.prod t9 t26) fcWriteR.sh:=
 fn_ok mixOk tabOk noU_ok noPhi_ok Psi_k20_ok Tryd.func20 b_k20_ok (by kernel_rfl) fun x=>M.le_trans (M.le_of_eq (l_k20 x)) (sWriteR x)
def b_k61:Code:=Tryd.f61.body.getD .skip
theorem b_k61_ok:Tryd.f61.body=some b_k61:=by kernel_rfl
def Psi_k61 (k:Nat):Option KC:=if k=35 then some (.sc ⟨t9,t4,fcIsPlain.sh,true⟩) else none
theorem Psi_k61_ok:PsiOk Tryd.prog noU Psi_k61:=by
 intro k c h
 unfold Psi_k61 at h
 split at h
 ·cases h;subst_vars;exact ⟨spec_k35,fun _ _=>M.det_det⟩
 cases h
def ann_k61:Ann:=(.seq .leaf (.seq (.seq .leaf (.cond (.seq .leaf .leaf) .leaf)) (.join ⟨[],[]⟩ (.seq .leaf (.block (.loop ⟨[(0,.val t22),(3,.val t3)],[]⟩ (.seq (.seq .leaf (.cond .leaf .leaf)) (.seq (.block (.seq .leaf (.cond (.seq .leaf .leaf) .leaf))) .leaf))))) (.seq .leaf .leaf))))
theorem l_k61 (x):funI noU (tabT tab) noPhi Psi_k61 Tryd.f61 b_k61 ann_k61 t22 t4 x=S_ref14_isBlock fcIsPlain.sh x:=by kernel_rfl
theorem spec_k61:FnSpec Tryd.prog 61 t22 t4 fcIsBlock.sh:=
 fn_ok mixOk tabOk noU_ok noPhi_ok Psi_k61_ok Tryd.func61 b_k61_ok (by kernel_rfl) fun x=>M.le_trans (M.le_of_eq (l_k61 x)) (sIsBlock x)
def b_k41:Code:=Tryd.f41.body.getD .skip
theorem b_k41_ok:Tryd.f41.body=some b_k41:=by kernel_rfl
def Psi_k41 (k:Nat):Option KC:=if k=59 then some (.sc ⟨t9,t9,fcCheckR.sh,true⟩) else if k=60 then some (.sc ⟨(.prod t22 t3),t9,fcColumnR.sh,true⟩) else none
theorem Psi_k41_ok:PsiOk Tryd.prog noU Psi_k41:=by
 intro k c h
 unfold Psi_k41 at h
 split at h
 ·cases h;subst_vars;exact ⟨spec_k59,fun _ _=>M.det_det⟩
 split at h
 ·cases h;subst_vars;exact ⟨spec_k60,fun _ _=>M.det_det⟩
 cases h
def ann_k41:Ann:=(.seq .leaf (.seq .leaf (.join ⟨[(0,.val t22),(2,.own 2),(3,.own 3),(4,.val t3),(5,.val t3)],[(2,.arr t3),(3,.arr t3)]⟩ (.seq .leaf (.block (.loop ⟨[(0,.val t22),(2,.own 2),(3,.own 3),(4,.val t3),(5,.val t3),(6,.val t3)],[(2,.arr t3),(3,.arr t3)]⟩ (.seq (.seq .leaf (.cond .leaf .leaf)) (.join ⟨[(0,.val t22),(2,.own 2),(3,.own 3),(4,.val t3),(5,.val t3),(6,.val t3)],[(2,.arr t3),(3,.arr t3)]⟩ (.block (.seq .leaf (.cond .leaf .leaf))) .leaf))))) (.join ⟨[(2,.own 2),(3,.own 3)],[(2,.arr t3),(3,.arr t3)]⟩ (.seq .leaf (.block (.loop ⟨[(0,.val t22),(2,.own 2),(3,.own 3),(4,.val t3),(5,.val t3),(7,.val t3)],[(2,.arr t3),(3,.arr t3)]⟩ (.seq (.seq .leaf (.cond .leaf .leaf)) (.join ⟨[(0,.val t22),(2,.own 2),(3,.own 3),(4,.val t3),(5,.val t3),(7,.val t3)],[(2,.arr t3),(3,.arr t3)]⟩ (.block (.seq .leaf (.cond .leaf .leaf))) .leaf))))) (.seq .leaf .leaf)))))
theorem l_k41 (x):funI noU (tabT tab) noPhi Psi_k41 Tryd.f41 b_k41 ann_k41 t22 (.prod t29 t29) x=S_ref14_failing fcCheckR.sh fcColumnR.sh x:=by kernel_rfl
theorem spec_k41:FnSpec Tryd.prog 41 t22 (.prod t29 t29) fcFailing.sh:=
 fn_ok mixOk tabOk noU_ok noPhi_ok Psi_k41_ok Tryd.func41 b_k41_ok (by kernel_rfl) fun x=>M.le_trans (M.le_of_eq (l_k41 x)) (sFailing x)
def b_k39:Code:=Tryd.f39.body.getD .skip
theorem b_k39_ok:Tryd.f39.body=some b_k39:=by kernel_rfl
def Psi_k39 (k:Nat):Option KC:=if k=41 then some (.sc ⟨t22,(.prod t29 t29),fcFailing.sh,true⟩) else if k=58 then some (.sc ⟨t3,t9,fcWritten.sh,true⟩) else if k=59 then some (.sc ⟨t9,t9,fcCheckR.sh,true⟩) else if k=60 then some (.sc ⟨(.prod t22 t3),t9,fcColumnR.sh,true⟩) else none
theorem Psi_k39_ok:PsiOk Tryd.prog noU Psi_k39:=by
 intro k c h
 unfold Psi_k39 at h
 split at h
 ·cases h;subst_vars;exact ⟨spec_k41,fun _ _=>M.det_det⟩
 split at h
 ·cases h;subst_vars;exact ⟨spec_k58,fun _ _=>M.det_det⟩
 split at h
 ·cases h;subst_vars;exact ⟨spec_k59,fun _ _=>M.det_det⟩
 split at h
 ·cases h;subst_vars;exact ⟨spec_k60,fun _ _=>M.det_det⟩
 cases h
def ann_k39:Ann:=(.seq .leaf (.seq .leaf (.seq (.seq .leaf (.cond (.seq .leaf .leaf) .leaf)) (.seq (.seq .leaf (.cond (.seq .leaf .leaf) .leaf)) (.seq .leaf (.seq .leaf (.join ⟨[],[]⟩ (.seq .leaf (.block (.loop ⟨[(0,.val t22),(3,.val t3),(4,.val t3),(8,.val t3),(9,.val t3),(10,.val t3)],[]⟩ (.seq (.seq .leaf (.cond .leaf .leaf)) (.join ⟨[(0,.val t22),(3,.val t3),(4,.val t3),(8,.val t3),(9,.val t3),(10,.val t3)],[]⟩ (.block (.seq .leaf (.seq (.seq .leaf (.cond .leaf .leaf)) (.seq .leaf (.seq .leaf (.seq (.seq .leaf (.cond .leaf .leaf)) (.seq .leaf (.seq .leaf (.cond (.seq .leaf .leaf) .leaf))))))))) .leaf))))) (.seq .leaf .leaf))))))))
theorem l_k39 (x):funI noU (tabT tab) noPhi Psi_k39 Tryd.f39 b_k39 ann_k39 t22 (.prod t22 (.prod t3 (.prod t3 t4))) x=S_ref14_Mend fcFailing.sh fcWritten.sh fcCheckR.sh fcColumnR.sh x:=by kernel_rfl
theorem spec_k39:FnSpec Tryd.prog 39 t22 (.prod t22 (.prod t3 (.prod t3 t4))) fcMend.sh:=
 fn_ok mixOk tabOk noU_ok noPhi_ok Psi_k39_ok Tryd.func39 b_k39_ok (by kernel_rfl) fun x=>M.le_trans (M.le_of_eq (l_k39 x)) (sMend x)
def b_k40:Code:=Tryd.f40.body.getD .skip
theorem b_k40_ok:Tryd.f40.body=some b_k40:=by kernel_rfl
def Psi_k40 (k:Nat):Option KC:=if k=20 then some (.sc ⟨t22,(.prod t9 t26),fcWriteR.sh,true⟩) else if k=36 then some (.sc ⟨t22,t9,fcTextR.sh,true⟩) else if k=62 then some (.sc ⟨t5,t3,fcValue.sh,true⟩) else none
theorem Psi_k40_ok:PsiOk Tryd.prog noU Psi_k40:=by
 intro k c h
 unfold Psi_k40 at h
 split at h
 ·cases h;subst_vars;exact ⟨spec_k20,fun _ _=>M.det_det⟩
 split at h
 ·cases h;subst_vars;exact ⟨spec_k36,fun _ _=>M.det_det⟩
 split at h
 ·cases h;subst_vars;exact ⟨spec_k62,fun _ _=>M.det_det⟩
 cases h
def ann_k40:Ann:=(.seq .leaf (.seq .leaf (.seq .leaf (.join ⟨[(4,.own 4),(5,.val t9)],[(4,.arr t9)]⟩ (.seq .leaf (.block (.loop ⟨[(0,.val t70),(4,.own 4),(5,.val t9),(6,.val t3)],[(4,.arr t9)]⟩ (.seq (.seq .leaf (.cond .leaf .leaf)) (.join ⟨[(0,.val t70),(4,.own 4),(5,.val t9),(6,.val t3)],[(4,.arr t9)]⟩ (.block (.seq .leaf (.join ⟨[(0,.val t70),(4,.own 4),(5,.val t9),(6,.val t3),(7,.val t22)],[(4,.arr t9)]⟩ (.seq .leaf (.block (.loop ⟨[(0,.val t70),(4,.own 4),(5,.val t9),(6,.val t3),(7,.val t22),(8,.val t3)],[(4,.arr t9)]⟩ (.seq (.seq .leaf (.cond .leaf .leaf)) (.seq (.block (.seq .leaf (.seq (.seq .leaf (.cond (.seq .leaf .leaf) .leaf)) .leaf))) .leaf))))) .leaf))) .leaf))))) (.seq .leaf (.seq .leaf .leaf))))))
theorem l_k40 (x):funI noU (tabT tab) noPhi Psi_k40 Tryd.f40 b_k40 ann_k40 t70 (.prod t22 t4) x=S_ref14_texts fcWriteR.sh fcTextR.sh fcValue.sh x:=by kernel_rfl
theorem spec_k40:FnSpec Tryd.prog 40 t70 (.prod t22 t4) fcTextsR.sh:=
 fn_ok mixOk tabOk noU_ok noPhi_ok Psi_k40_ok Tryd.func40 b_k40_ok (by kernel_rfl) fun x=>M.le_trans (M.le_of_eq (l_k40 x)) (sTextsR x)
def b_k38:Code:=Tryd.f38.body.getD .skip
theorem b_k38_ok:Tryd.f38.body=some b_k38:=by kernel_rfl
def Psi_k38 (k:Nat):Option KC:=if k=61 then some (.sc ⟨t22,t4,fcIsBlock.sh,true⟩) else none
theorem Psi_k38_ok:PsiOk Tryd.prog noU Psi_k38:=by
 intro k c h
 unfold Psi_k38 at h
 split at h
 ·cases h;subst_vars;exact ⟨spec_k61,fun _ _=>M.det_det⟩
 cases h
def ann_k38:Ann:=(.seq .leaf (.seq .leaf (.seq .leaf (.seq .leaf (.join ⟨[(4,.own 4),(5,.own 5),(6,.val t9)],[(4,.arr t22),(5,.arr t9)]⟩ (.seq .leaf (.block (.loop ⟨[(0,.val t9),(4,.own 4),(5,.own 5),(6,.val t9),(7,.val t3)],[(4,.arr t22),(5,.arr t9)]⟩ (.seq (.seq .leaf (.cond .leaf .leaf)) (.join ⟨[(0,.val t9),(4,.own 4),(5,.own 5),(6,.val t9),(7,.val t3)],[(4,.arr t22),(5,.arr t9)]⟩ (.block (.seq (.seq .leaf (.cond (.seq .leaf .leaf) .leaf)) (.seq (.seq .leaf (.cond (.seq .leaf (.seq .leaf .leaf)) .leaf)) (.seq (.seq .leaf (.cond (.seq .leaf .leaf) .leaf)) (.seq .leaf .leaf))))) .leaf))))) (.seq .leaf .leaf))))))
theorem l_k38 (x):funI noU (tabT tab) noPhi Psi_k38 Tryd.f38 b_k38 ann_k38 t9 (.prod t70 t4) x=S_ref14_Blocks fcIsBlock.sh x:=by kernel_rfl
theorem spec_k38:FnSpec Tryd.prog 38 t9 (.prod t70 t4) fcBlocks.sh:=
 fn_ok mixOk tabOk noU_ok noPhi_ok Psi_k38_ok Tryd.func38 b_k38_ok (by kernel_rfl) fun x=>M.le_trans (M.le_of_eq (l_k38 x)) (sBlocksD x)
def b_k26:Code:=Tryd.f26.body.getD .skip
theorem b_k26_ok:Tryd.f26.body=some b_k26:=by kernel_rfl
def Psi_k26 (k:Nat):Option KC:=if k=36 then some (.sc ⟨t22,t9,fcTextR.sh,true⟩) else if k=38 then some (.sc ⟨t9,(.prod t70 t4),fcBlocks.sh,true⟩) else if k=39 then some (.sc ⟨t22,(.prod t22 (.prod t3 (.prod t3 t4))),fcMend.sh,true⟩) else if k=40 then some (.sc ⟨t70,(.prod t22 t4),fcTextsR.sh,true⟩) else none
theorem Psi_k26_ok:PsiOk Tryd.prog noU Psi_k26:=by
 intro k c h
 unfold Psi_k26 at h
 split at h
 ·cases h;subst_vars;exact ⟨spec_k36,fun _ _=>M.det_det⟩
 split at h
 ·cases h;subst_vars;exact ⟨spec_k38,fun _ _=>M.det_det⟩
 split at h
 ·cases h;subst_vars;exact ⟨spec_k39,fun _ _=>M.det_det⟩
 split at h
 ·cases h;subst_vars;exact ⟨spec_k40,fun _ _=>M.det_det⟩
 cases h
def ann_k26:Ann:=(.seq .leaf (.seq .leaf (.seq .leaf (.seq (.seq .leaf (.cond (.seq .leaf .leaf) .leaf)) (.seq .leaf (.join ⟨[(10,.own 10)],[(10,.arr t22)]⟩ (.seq .leaf (.block (.loop ⟨[(6,.val t70),(8,.val t70),(10,.own 10),(11,.val t3)],[(10,.arr t22)]⟩ (.seq (.seq .leaf (.cond .leaf .leaf)) (.seq (.block (.seq .leaf (.seq .leaf (.join ⟨[(6,.val t70),(8,.val t70),(10,.own 10),(11,.val t3),(12,.val t22)],[(10,.arr t22)]⟩ (.block (.seq .leaf (.cond (.seq .leaf .leaf) (.seq .leaf (.cond .leaf (.seq .leaf (.cond (.seq .leaf .leaf) .leaf))))))) .leaf)))) .leaf))))) (.seq .leaf (.seq (.seq .leaf (.cond (.seq .leaf .leaf) .leaf)) (.seq .leaf .leaf)))))))))
theorem l_k26 (x):funI noU (tabT tab) noPhi Psi_k26 Tryd.f26 b_k26 ann_k26 (.prod t9 t9) (.prod t22 t26) x=S_ref14_Join fcTextR.sh fcBlocks.sh fcMend.sh fcTextsR.sh x:=by kernel_rfl
theorem spec_k26:FnSpec Tryd.prog 26 (.prod t9 t9) (.prod t22 t26) fcJoin.sh:=
 fn_ok mixOk tabOk noU_ok noPhi_ok Psi_k26_ok Tryd.func26 b_k26_ok (by kernel_rfl) fun x=>M.le_trans (M.le_of_eq (l_k26 x)) (sJoinRef x)
end Go.Fer.Sk
namespace Go.Fer.Sk
open Go.Proofs
open M (Step)
set_option maxRecDepth 100000
set_option linter.unusedVariables false
set_option linter.unusedSimpArgs false
def b_k44:Code:=Tryd.f44.body.getD .skip
theorem b_k44_ok:Tryd.f44.body=some b_k44:=by kernel_rfl
def Psi_k44 (k:Nat):Option KC:=none
theorem Psi_k44_ok:PsiOk Tryd.prog noU Psi_k44:=by
 intro k c h
 unfold Psi_k44 at h
 cases h
def ann_k44:Ann:=(.seq .leaf (.join ⟨[],[]⟩ (.seq .leaf (.block (.loop ⟨[(0,.val t22),(1,.val t44),(7,.val t3),(8,.val t3)],[]⟩ (.seq .leaf (.seq (.cond .leaf .leaf) (.seq (.block (.seq .leaf (.seq .leaf (.cond (.seq .leaf .leaf) .leaf)))) .leaf)))))) (.seq .leaf .leaf)))
theorem l_k44 (x):funI noU (tabT tab) noPhi Psi_k44 Tryd.f44 b_k44 ann_k44 (.prod t22 t44) t3 x=S_slices_IndexFunc_string_string  x:=by kernel_rfl
theorem spec_k44:FnSpec Tryd.prog 44 (.prod t22 t44) t3 (fcIndexFunc .str).sh:=
 fn_ok mixOk tabOk noU_ok noPhi_ok Psi_k44_ok Tryd.func44 b_k44_ok (by kernel_rfl) fun x=>M.le_trans (M.le_of_eq (l_k44 x)) (sIndexFuncT x)
def b_k27:Code:=Tryd.f27.body.getD .skip
theorem b_k27_ok:Tryd.f27.body=some b_k27:=by kernel_rfl
def Psi_k27 (k:Nat):Option KC:=if k=44 then some (.sc ⟨(.prod t22 t44),t3,(fcIndexFunc .str).sh,true⟩) else none
theorem Psi_k27_ok:PsiOk Tryd.prog noU Psi_k27:=by
 intro k c h
 unfold Psi_k27 at h
 split at h
 ·cases h;subst_vars;exact ⟨spec_k44,fun _ _=>M.det_det⟩
 cases h
def ann_k27:Ann:=(.seq .leaf (.seq .leaf .leaf))
theorem l_k27 (x):funI noU (tabT tab) noPhi Psi_k27 Tryd.f27 b_k27 ann_k27 (.prod t22 t44) t4 x=S_slices_ContainsFunc_string_string (fcIndexFunc .str).sh x:=by kernel_rfl
theorem spec_k27:FnSpec Tryd.prog 27 (.prod t22 t44) t4 (fcContainsFunc .str).sh:=
 fn_ok mixOk tabOk noU_ok noPhi_ok Psi_k27_ok Tryd.func27 b_k27_ok (by kernel_rfl) fun x=>M.le_trans (M.le_of_eq (l_k27 x)) (sContainsFuncT x)
def b_k28:Code:=Tryd.f28.body.getD .skip
theorem b_k28_ok:Tryd.f28.body=some b_k28:=by kernel_rfl
def Psi_k28 (k:Nat):Option KC:=if k=29 then some (.sc ⟨t9,t4,fcIsT.sh,true⟩) else none
theorem Psi_k28_ok:PsiOk Tryd.prog noU Psi_k28:=by
 intro k c h
 unfold Psi_k28 at h
 split at h
 ·cases h;subst_vars;exact ⟨spec_k29,fun _ _=>M.det_det⟩
 cases h
def ann_k28:Ann:=(.seq .leaf (.seq .leaf .leaf))
theorem l_k28 (x):funI noU (tabT tab) noPhi Psi_k28 Tryd.f28 b_k28 ann_k28 t9 t4 x=S_files_Write_c1 fcIsT.sh x:=by kernel_rfl
theorem spec_k28:FnSpec Tryd.prog 28 t9 t4 fcBadT.sh:=
 fn_ok mixOk tabOk noU_ok noPhi_ok Psi_k28_ok Tryd.func28 b_k28_ok (by kernel_rfl) fun x=>M.le_trans (M.le_of_eq (l_k28 x)) (sBadT x)
def b_kbstr:Code:=Tryd.f48.body.getD .skip
theorem b_kbstr_ok:Tryd.f48.body=some b_kbstr:=by kernel_rfl
def Psi_kbstr (k:Nat):Option KC:=none
theorem Psi_kbstr_ok:PsiOk Tryd.prog noU Psi_kbstr:=by
 intro k c h
 unfold Psi_kbstr at h
 cases h
def ioc_bstr:IOC:=⟨⟨[(0,.loc 100001 0)],[(100001,.cells t84 [.nos 100001,.own 100002]),(100002,.arr t5)]⟩,⟨[(0,.val t9)],[(100001,.cells t84 [.nos 100001,.undef])]⟩,[none],1,shBStr⟩
def ann_kbstr:Ann:=(.seq .leaf (.seq .leaf .leaf))
theorem l_kbstr (x):funIO noU (tabT tab) noPhi Psi_kbstr Tryd.f48 b_kbstr ann_kbstr ⟨[(0,.loc 100001 0)],[(100001,.cells t84 [.nos 100001,.own 100002]),(100002,.arr t5)]⟩ ⟨[(0,.val t9)],[(100001,.cells t84 [.nos 100001,.undef])]⟩ [none] x=S_io_bstr  x:=by kernel_rfl
theorem io_bstr:IoSpec Tryd.prog noU 48 ioc_bstr:=
 fnIO_ok mixOk tabOk noPhi_ok Psi_kbstr_ok Tryd.func48 b_kbstr_ok (by kernel_rfl) fun x=>M.le_trans (M.le_of_eq (l_kbstr x)) (sBStr x)
def b_kwrite:Code:=Tryd.f63.body.getD .skip
theorem b_kwrite_ok:Tryd.f63.body=some b_kwrite:=by kernel_rfl
def Psi_kwrite (k:Nat):Option KC:=if k=67 then some (.io ioc_ccheck) else none
theorem Psi_kwrite_ok:PsiOk Tryd.prog noU Psi_kwrite:=by
 intro k c h
 unfold Psi_kwrite at h
 split at h
 ·cases h;subst_vars;exact io_ccheck
 cases h
def ioc_write:IOC:=⟨⟨[(0,.loc 100001 0),(1,.val t55)],[(100001,.cells t84 [.nos 100001,.own 100002]),(100002,.arr t5)]⟩,⟨[(0,.val t3)],[(100001,.cells t84 [.nos 100001,.own 100002]),(100002,.arr t5)]⟩,[none,none],2,shWrite⟩
def ann_kwrite:Ann:=(.seq .leaf (.seq .leaf (.seq .leaf (.seq .leaf .leaf))))
theorem l_kwrite (x):funIO noU (tabT tab) noPhi Psi_kwrite Tryd.f63 b_kwrite ann_kwrite ⟨[(0,.loc 100001 0),(1,.val t55)],[(100001,.cells t84 [.nos 100001,.own 100002]),(100002,.arr t5)]⟩ ⟨[(0,.val t3)],[(100001,.cells t84 [.nos 100001,.own 100002]),(100002,.arr t5)]⟩ [none,none] x=S_io_write shCopyC x:=by kernel_rfl
theorem io_write:IoSpec Tryd.prog noU 63 ioc_write:=
 fnIO_ok mixOk tabOk noPhi_ok Psi_kwrite_ok Tryd.func63 b_kwrite_ok (by kernel_rfl) fun x=>M.le_trans (M.le_of_eq (l_kwrite x)) (sWrite x)
def b_kwbyte:Code:=Tryd.f64.body.getD .skip
theorem b_kwbyte_ok:Tryd.f64.body=some b_kwbyte:=by kernel_rfl
def Psi_kwbyte (k:Nat):Option KC:=if k=67 then some (.io ioc_ccheck) else none
theorem Psi_kwbyte_ok:PsiOk Tryd.prog noU Psi_kwbyte:=by
 intro k c h
 unfold Psi_kwbyte at h
 split at h
 ·cases h;subst_vars;exact io_ccheck
 cases h
def ioc_wbyte:IOC:=⟨⟨[(0,.loc 100001 0),(1,.val t5)],[(100001,.cells t84 [.nos 100001,.own 100002]),(100002,.arr t5)]⟩,⟨[],[(100001,.cells t84 [.nos 100001,.own 100002]),(100002,.arr t5)]⟩,[none],2,shWByte⟩
def ann_kwbyte:Ann:=(.seq .leaf (.seq .leaf (.seq .leaf (.seq .leaf .leaf))))
theorem l_kwbyte (x):funIO noU (tabT tab) noPhi Psi_kwbyte Tryd.f64 b_kwbyte ann_kwbyte ⟨[(0,.loc 100001 0),(1,.val t5)],[(100001,.cells t84 [.nos 100001,.own 100002]),(100002,.arr t5)]⟩ ⟨[],[(100001,.cells t84 [.nos 100001,.own 100002]),(100002,.arr t5)]⟩ [none] x=S_io_wbyte shCopyC x:=by kernel_rfl
theorem io_wbyte:IoSpec Tryd.prog noU 64 ioc_wbyte:=
 fnIO_ok mixOk tabOk noPhi_ok Psi_kwbyte_ok Tryd.func64 b_kwbyte_ok (by kernel_rfl) fun x=>M.le_trans (M.le_of_eq (l_kwbyte x)) (sWByte x)
def b_k42:Code:=Tryd.f42.body.getD .skip
theorem b_k42_ok:Tryd.f42.body=some b_k42:=by kernel_rfl
def Psi_k42 (k:Nat):Option KC:=if k=48 then some (.io ioc_bstr) else if k=63 then some (.io ioc_write) else if k=64 then some (.io ioc_wbyte) else none
theorem Psi_k42_ok:PsiOk Tryd.prog noU Psi_k42:=by
 intro k c h
 unfold Psi_k42 at h
 split at h
 ·cases h;subst_vars;exact io_bstr
 split at h
 ·cases h;subst_vars;exact io_write
 split at h
 ·cases h;subst_vars;exact io_wbyte
 cases h
def ann_k42:Ann:=(.seq .leaf (.join ⟨[(0,.val t63),(3,.loc 3 0)],[(3,.cells t84 [.nos 3,.own 30000]),(30000,.arr t5)]⟩ .leaf (.join ⟨[(3,.loc 3 0)],[(3,.cells t84 [.nos 3,.own 30000]),(30000,.arr t5)]⟩ (.seq .leaf (.block (.loop ⟨[(3,.loc 3 0),(6,.val t63),(7,.val t3),(8,.val t3)],[(3,.cells t84 [.nos 3,.own 30000]),(30000,.arr t5)]⟩ (.seq .leaf (.seq (.cond .leaf .leaf) (.seq (.block (.seq .leaf (.seq .leaf .leaf))) .leaf)))))) (.seq .leaf (.seq .leaf .leaf)))))
theorem l_k42 (x):funI noU (tabT tab) noPhi Psi_k42 Tryd.f42 b_k42 ann_k42 t63 t9 x=S_files_block_text shBStr shWrite shWByte x:=by kernel_rfl
theorem spec_k42:FnSpec Tryd.prog 42 t63 t9 fcText.sh:=
 fn_ok mixOk tabOk noU_ok noPhi_ok Psi_k42_ok Tryd.func42 b_k42_ok (by kernel_rfl) fun x=>M.le_trans (M.le_of_eq (l_k42 x)) (sText x)
def b_kchunk:Code:=Tryd.f66.body.getD .skip
theorem b_kchunk_ok:Tryd.f66.body=some b_kchunk:=by kernel_rfl
def Psi_kchunk (k:Nat):Option KC:=none
theorem Psi_kchunk_ok:PsiOk Tryd.prog noU Psi_kchunk:=by
 intro k c h
 unfold Psi_kchunk at h
 cases h
def ioc_chunk:IOC:=⟨⟨[(0,.yld),(1,.pp t22),(2,.pp t3),(1000000,.tr t22)],[]⟩,⟨[(1000000,.tr t22)],[]⟩,[],3,S_io_chunk⟩
def ann_kchunk:Ann:=(.seq .leaf (.block (.loop ⟨[(0,.yld),(1,.pp t22),(2,.pp t3),(4,.val t3),(1000000,.tr t22)],[]⟩ (.seq (.seq .leaf (.cond .leaf .leaf)) (.seq (.block (.seq .leaf (.seq .leaf (.cond .leaf .leaf)))) .leaf)))))
theorem l_kchunk (x):funIO noU (tabT tab) noPhi Psi_kchunk Tryd.f66 b_kchunk ann_kchunk ⟨[(0,.yld),(1,.pp t22),(2,.pp t3),(1000000,.tr t22)],[]⟩ ⟨[(1000000,.tr t22)],[]⟩ [] x=S_io_chunk  x:=by kernel_rfl
theorem io_chunk:IoSpec Tryd.prog noU 66 ioc_chunk:=
 fnIO_ok mixOk tabOk noPhi_ok Psi_kchunk_ok Tryd.func66 b_kchunk_ok (by kernel_rfl) fun x=>M.le_trans (M.le_of_eq (l_kchunk x)) (M.le_refl <| S_io_chunk x)
theorem cit_66:CItSpec Tryd.prog 66 ⟨[t22,t3],t22,chunkS⟩:=cit_of_io (c:=ioc_chunk) io_chunk noU_ok (fun x l L=>(l,x.1.getD [],x.2.getD 0,(l,L,[],false),())) rfl (by decide) (by simp [tupT])
 (fun x l L i hx=>by
  obtain ⟨T,hT⟩:=hx
  obtain ⟨s,hm,hs,_⟩:=hT
  subst hm
  by_cases h0:i=0
  ·subst h0;exact .inr (.inr (.inl ⟨rfl,rfl⟩))
  ·by_cases h1:i=1
   ·subst h1;exact .inr (.inl ⟨by decide,by decide,_,_,rfl,rfl⟩)
   by_cases h3:i=2
   ·subst h3;exact .inr (.inl ⟨by decide,by decide,_,_,rfl,rfl⟩)
   by_cases h2:i=TRS
   ·subst h2;exact .inr (.inr (.inr ⟨rfl,rfl⟩))
   ·refine .inl ?_
    exact (if_neg h0).trans ((if_neg h1).trans ((if_neg h3).trans (if_neg h2))))
 rfl (fun τ=>⟨_,_,_,_,rfl⟩) (fun x l hx=>by
  obtain ⟨T,hT⟩:=hx
  obtain ⟨s,hm,hs,_⟩:=hT
  subst hm
  have h:=sChunkIO l s hs
  refine ⟨h.1,fun τ hτ l' L' p hsl=>?_⟩
  have e:AV.tr τ.1.1 t22 τ.1.2.1 τ.1.2.2.1 τ.1.2.2.2=.tr l' t22 L' p false:=hsl
  injection e with e1 e2 e3 e4 e5
  rw [←e4]
  exact h.2 τ hτ e5)
def b_k45:Code:=Tryd.f45.body.getD .skip
theorem b_k45_ok:Tryd.f45.body=some b_k45:=by kernel_rfl
def U_k45:FnTab:={ fnv:=fun k=>none,clv:=fun k=>none,itv:=fun k=>if k=66 then some ⟨[t22,t3],t22,chunkS⟩ else none }
theorem U_k45_ok:FnTabOk Tryd.prog U_k45 where
 fnv:=by
  intro k v h
  simp only [U_k45] at h
  cases h
 clv:=by
  intro k v h
  simp only [U_k45] at h
  cases h
 itv:=by
  intro k v h
  simp only [U_k45] at h
  split at h
  ·cases h;subst_vars;exact cit_66
  cases h
def Psi_k45 (k:Nat):Option KC:=none
theorem Psi_k45_ok:PsiOk Tryd.prog U_k45 Psi_k45:=by
 intro k c h
 unfold Psi_k45 at h
 cases h
def ann_k45:Ann:=(.seq .leaf (.join ⟨[(2,.loc 2 0),(3,.loc 3 0)],[(2,.cells t22 [.val t22]),(3,.cells t3 [.val t3])]⟩ (.seq .leaf (.cond .leaf .leaf)) (.seq .leaf .leaf)))
theorem l_k45 (x):funI U_k45 (tabT tab) noPhi Psi_k45 Tryd.f45 b_k45 ann_k45 (.prod t22 t3) t86 x=S_slices_Chunk_string_string chunkS x:=by kernel_rfl
theorem spec_k45:FnSpec Tryd.prog 45 (.prod t22 t3) t86 fcChunk.sh:=
 fn_ok mixOk tabOk U_k45_ok noPhi_ok Psi_k45_ok Tryd.func45 b_k45_ok (by kernel_rfl) fun x=>M.le_trans (M.le_of_eq (l_k45 x)) (sChunk x)
def b_kwstr:Code:=Tryd.f46.body.getD .skip
theorem b_kwstr_ok:Tryd.f46.body=some b_kwstr:=by kernel_rfl
def Psi_kwstr (k:Nat):Option KC:=if k=67 then some (.io ioc_ccheck) else none
theorem Psi_kwstr_ok:PsiOk Tryd.prog noU Psi_kwstr:=by
 intro k c h
 unfold Psi_kwstr at h
 split at h
 ·cases h;subst_vars;exact io_ccheck
 cases h
def ioc_wstr:IOC:=⟨⟨[(0,.loc 100001 0),(1,.val t9)],[(100001,.cells t84 [.nos 100001,.own 100002]),(100002,.arr t5)]⟩,⟨[(0,.val t3)],[(100001,.cells t84 [.nos 100001,.own 100002]),(100002,.arr t5)]⟩,[none,none],2,shWStr⟩
def ann_kwstr:Ann:=(.seq .leaf (.seq .leaf (.seq .leaf (.seq .leaf .leaf))))
theorem l_kwstr (x):funIO noU (tabT tab) noPhi Psi_kwstr Tryd.f46 b_kwstr ann_kwstr ⟨[(0,.loc 100001 0),(1,.val t9)],[(100001,.cells t84 [.nos 100001,.own 100002]),(100002,.arr t5)]⟩ ⟨[(0,.val t3)],[(100001,.cells t84 [.nos 100001,.own 100002]),(100002,.arr t5)]⟩ [none,none] x=S_io_wstr shCopyC x:=by kernel_rfl
theorem io_wstr:IoSpec Tryd.prog noU 46 ioc_wstr:=
 fnIO_ok mixOk tabOk noPhi_ok Psi_kwstr_ok Tryd.func46 b_kwstr_ok (by kernel_rfl) fun x=>M.le_trans (M.le_of_eq (l_kwstr x)) (sWStr x)
def b_kadd:Code:=Tryd.f73.body.getD .skip
theorem b_kadd_ok:Tryd.f73.body=some b_kadd:=by kernel_rfl
def Psi_kadd (k:Nat):Option KC:=none
theorem Psi_kadd_ok:PsiOk Tryd.prog noU Psi_kadd:=by
 intro k c h
 unfold Psi_kadd at h
 cases h
def ioc_add:IOC:=⟨⟨[(0,.loc 100000 0),(1,.val t5)],[(100000,.cells t3 [.val t3])]⟩,⟨[],[(100000,.cells t3 [.val t3])]⟩,[],2,shAdd⟩
def ann_kadd:Ann:=.leaf
theorem l_kadd (x):funIO noU (tabT tab) noPhi Psi_kadd Tryd.f73 b_kadd ann_kadd ⟨[(0,.loc 100000 0),(1,.val t5)],[(100000,.cells t3 [.val t3])]⟩ ⟨[],[(100000,.cells t3 [.val t3])]⟩ [] x=S_io_add  x:=by kernel_rfl
theorem io_add:IoSpec Tryd.prog noU 73 ioc_add:=
 fnIO_ok mixOk tabOk noPhi_ok Psi_kadd_ok Tryd.func73 b_kadd_ok (by kernel_rfl) fun x=>M.le_trans (M.le_of_eq (l_kadd x)) (sAdd x)
def b_k68:Code:=Tryd.f68.body.getD .skip
theorem b_k68_ok:Tryd.f68.body=some b_k68:=by kernel_rfl
def Psi_k68 (k:Nat):Option KC:=none
theorem Psi_k68_ok:PsiOk Tryd.prog noU Psi_k68:=by
 intro k c h
 unfold Psi_k68 at h
 cases h
def ann_k68:Ann:=(.seq .leaf (.seq .leaf .leaf))
theorem l_k68 (x):funI noU (tabT tab) noPhi Psi_k68 Tryd.f68 b_k68 ann_k68 t3 t5 x=S_files_written  x:=by kernel_rfl
theorem spec_k68:FnSpec Tryd.prog 68 t3 t5 fcWrittenP.sh:=
 fn_ok mixOk tabOk noU_ok noPhi_ok Psi_k68_ok Tryd.func68 b_k68_ok (by kernel_rfl) fun x=>M.le_trans (M.le_of_eq (l_k68 x)) (sWrittenP x)
def b_k74:Code:=Tryd.f74.body.getD .skip
theorem b_k74_ok:Tryd.f74.body=some b_k74:=by kernel_rfl
def Psi_k74 (k:Nat):Option KC:=if k=68 then some (.sc ⟨t3,t5,fcWrittenP.sh,true⟩) else none
theorem Psi_k74_ok:PsiOk Tryd.prog noU Psi_k74:=by
 intro k c h
 unfold Psi_k74 at h
 split at h
 ·cases h;subst_vars;exact ⟨spec_k68,fun _ _=>M.det_det⟩
 cases h
def ann_k74:Ann:=(.seq .leaf (.seq .leaf .leaf))
theorem l_k74 (x):funI noU (tabT tab) noPhi Psi_k74 Tryd.f74 b_k74 ann_k74 t115 t5 x=S_files_sum_char fcWrittenP.sh x:=by kernel_rfl
theorem spec_k74:FnSpec Tryd.prog 74 t115 t5 fcWrittenP.sh:=
 fn_ok mixOk tabOk noU_ok noPhi_ok Psi_k74_ok Tryd.func74 b_k74_ok (by kernel_rfl) fun x=>M.le_trans (M.le_of_eq (l_k74 x)) (sChar x)
def b_k53:Code:=Tryd.f53.body.getD .skip
theorem b_k53_ok:Tryd.f53.body=some b_k53:=by kernel_rfl
def Psi_k53 (k:Nat):Option KC:=if k=73 then some (.io ioc_add) else if k=74 then some (.sc ⟨t115,t5,fcWrittenP.sh,true⟩) else none
theorem Psi_k53_ok:PsiOk Tryd.prog noU Psi_k53:=by
 intro k c h
 unfold Psi_k53 at h
 split at h
 ·cases h;subst_vars;exact io_add
 split at h
 ·cases h;subst_vars;exact ⟨spec_k74,fun _ _=>M.det_det⟩
 cases h
def ann_k53:Ann:=(.seq .leaf (.seq .leaf (.join ⟨[(3,.loc 3 0)],[(3,.cells t3 [.val t3])]⟩ (.seq .leaf (.block (.loop ⟨[(3,.loc 3 0),(6,.val t55),(7,.val t3),(8,.val t3)],[(3,.cells t3 [.val t3])]⟩ (.seq .leaf (.seq (.cond .leaf .leaf) (.seq (.block (.seq .leaf .leaf)) .leaf)))))) (.seq .leaf .leaf))))
theorem l_k53 (x):funI noU (tabT tab) noPhi Psi_k53 Tryd.f53 b_k53 ann_k53 t55 t5 x=S_files_check shAdd fcWrittenP.sh x:=by kernel_rfl
theorem spec_k53:FnSpec Tryd.prog 53 t55 t5 fcCheckP.sh:=
 fn_ok mixOk tabOk noU_ok noPhi_ok Psi_k53_ok Tryd.func53 b_k53_ok (by kernel_rfl) fun x=>M.le_trans (M.le_of_eq (l_k53 x)) (sCheckP x)
def b_kcolumn:Code:=Tryd.f54.body.getD .skip
theorem b_kcolumn_ok:Tryd.f54.body=some b_kcolumn:=by kernel_rfl
def Psi_kcolumn (k:Nat):Option KC:=none
theorem Psi_kcolumn_ok:PsiOk Tryd.prog noU Psi_kcolumn:=by
 intro k c h
 unfold Psi_kcolumn at h
 cases h
def ioc_column:IOC:=⟨⟨[(0,.own 200001),(1,.val t3),(2,.val t3)],[(200001,.arr t55)]⟩,⟨[(0,.own 7)],[(7,.arr t5),(200001,.arr t55)]⟩,[none],3,shColumn⟩
def ann_kcolumn:Ann:=(.seq .leaf (.seq .leaf (.join ⟨[(7,.own 7)],[(7,.arr t5),(200001,.arr t55)]⟩ (.seq .leaf (.block (.loop ⟨[(1,.val t3),(7,.own 7),(15,.sub 200001),(16,.val t3),(17,.val t3)],[(7,.arr t5),(200001,.arr t55)]⟩ (.seq .leaf (.seq (.cond .leaf .leaf) (.seq (.block (.seq .leaf .leaf)) .leaf)))))) (.seq .leaf .leaf))))
theorem l_kcolumn (x):funIO noU (tabT tab) noPhi Psi_kcolumn Tryd.f54 b_kcolumn ann_kcolumn ⟨[(0,.own 200001),(1,.val t3),(2,.val t3)],[(200001,.arr t55)]⟩ ⟨[(0,.own 7)],[(7,.arr t5),(200001,.arr t55)]⟩ [none] x=S_io_column  x:=by kernel_rfl
theorem io_column:IoSpec Tryd.prog noU 54 ioc_column:=
 fnIO_ok mixOk tabOk noPhi_ok Psi_kcolumn_ok Tryd.func54 b_kcolumn_ok (by kernel_rfl) fun x=>M.le_trans (M.le_of_eq (l_kcolumn x)) (sColumnIO x)
def b_k47:Code:=Tryd.f47.body.getD .skip
theorem b_k47_ok:Tryd.f47.body=some b_k47:=by kernel_rfl
def Psi_k47 (k:Nat):Option KC:=if k=53 then some (.sc ⟨t55,t5,fcCheckP.sh,true⟩) else if k=54 then some (.io ioc_column) else if k=68 then some (.sc ⟨t3,t5,fcWrittenP.sh,true⟩) else if k=69 then some (.sc ⟨(.prod t9 t3),t9,fcRep.sh,true⟩) else none
theorem Psi_k47_ok:PsiOk Tryd.prog noU Psi_k47:=by
 intro k c h
 unfold Psi_k47 at h
 split at h
 ·cases h;subst_vars;exact ⟨spec_k53,fun _ _=>M.det_det⟩
 split at h
 ·cases h;subst_vars;exact io_column
 split at h
 ·cases h;subst_vars;exact ⟨spec_k68,fun _ _=>M.det_det⟩
 split at h
 ·cases h;subst_vars;exact ⟨spec_k69,fun _ _=>M.det_det⟩
 cases h
def ann_k47:Ann:=(.seq .leaf (.seq .leaf (.seq .leaf (.join ⟨[(0,.val t22),(3,.own 3),(4,.val t3)],[(3,.arr t55)]⟩ (.seq .leaf (.block (.loop ⟨[(0,.val t22),(3,.own 3),(4,.val t3),(12,.val t22),(13,.val t3),(14,.val t3)],[(3,.arr t55)]⟩ (.seq .leaf (.seq (.cond .leaf .leaf) (.seq (.block (.seq .leaf .leaf)) .leaf)))))) (.join ⟨[(3,.own 3),(4,.val t3)],[(3,.arr t55)]⟩ (.seq .leaf (.block (.loop ⟨[(3,.own 3),(4,.val t3),(23,.val t22),(24,.val t3),(25,.val t3)],[(3,.arr t55)]⟩ (.seq .leaf (.seq (.cond .leaf .leaf) (.seq (.block (.seq .leaf (.seq .leaf .leaf))) .leaf)))))) (.seq .leaf (.join ⟨[(3,.own 3),(10,.own 10)],[(3,.arr t55),(10,.arr t5)]⟩ (.seq .leaf (.block (.loop ⟨[(3,.own 3),(10,.own 10),(51,.val t3),(52,.val t3)],[(3,.arr t55),(10,.arr t5)]⟩ (.seq .leaf (.seq (.cond .leaf .leaf) (.seq (.block (.seq .leaf .leaf)) .leaf)))))) (.seq .leaf .leaf))))))))
theorem l_k47 (x):funI noU (tabT tab) noPhi Psi_k47 Tryd.f47 b_k47 ann_k47 t22 t63 x=S_files_makeBlock fcCheckP.sh shColumn fcWrittenP.sh fcRep.sh x:=by kernel_rfl
theorem spec_k47:FnSpec Tryd.prog 47 t22 t63 fcMakeBlock.sh:=
 fn_ok mixOk tabOk noU_ok noPhi_ok Psi_k47_ok Tryd.func47 b_k47_ok (by kernel_rfl) fun x=>M.le_trans (M.le_of_eq (l_k47 x)) (sMakeBlock x)
def b_k30:Code:=Tryd.f30.body.getD .skip
theorem b_k30_ok:Tryd.f30.body=some b_k30:=by kernel_rfl
def Psi_k30 (k:Nat):Option KC:=if k=42 then some (.sc ⟨t63,t9,fcText.sh,true⟩) else if k=45 then some (.sc ⟨(.prod t22 t3),t86,fcChunk.sh,true⟩) else if k=46 then some (.io ioc_wstr) else if k=47 then some (.sc ⟨t22,t63,fcMakeBlock.sh,true⟩) else if k=48 then some (.io ioc_bstr) else none
theorem Psi_k30_ok:PsiOk Tryd.prog noU Psi_k30:=by
 intro k c h
 unfold Psi_k30 at h
 split at h
 ·cases h;subst_vars;exact ⟨spec_k42,fun _ _=>M.det_det⟩
 split at h
 ·cases h;subst_vars;exact ⟨spec_k45,fun _ _=>M.det_det⟩
 split at h
 ·cases h;subst_vars;exact io_wstr
 split at h
 ·cases h;subst_vars;exact ⟨spec_k47,fun _ _=>M.det_det⟩
 split at h
 ·cases h;subst_vars;exact io_bstr
 cases h
def ann_k30:Ann:=(.seq .leaf (.join ⟨[(0,.val t22),(3,.loc 3 0)],[(3,.cells t84 [.nos 3,.own 30000]),(30000,.arr t5)]⟩ .leaf (.seq (.seq .leaf (.block (.range ⟨[(3,.loc 3 0)],[(3,.cells t84 [.nos 3,.own 30000]),(30000,.arr t5)]⟩ ⟨[(3,.loc 100003 0),(7,.val t22)],[(100003,.cells t84 [.nos 100003,.own 130000]),(130000,.arr t5)]⟩ ⟨[],[(100003,.cells t84 [.nos 100003,.own 130000]),(130000,.arr t5)]⟩ .leaf (.block .leaf)))) (.seq .leaf .leaf))))
theorem l_k30 (x):funI noU (tabT tab) noPhi Psi_k30 Tryd.f30 b_k30 ann_k30 t22 t9 x=S_files_file fcText.sh fcChunk.sh shWStr fcMakeBlock.sh shBStr x:=by kernel_rfl
theorem spec_k30:FnSpec Tryd.prog 30 t22 t9 fcFile.sh:=
 fn_ok mixOk tabOk noU_ok noPhi_ok Psi_k30_ok Tryd.func30 b_k30_ok (by kernel_rfl) fun x=>M.le_trans (M.le_of_eq (l_k30 x)) (sFile x)
def b_k12:Code:=Tryd.f12.body.getD .skip
theorem b_k12_ok:Tryd.f12.body=some b_k12:=by kernel_rfl
def U_k12:FnTab:={ fnv:=fun k=>if k=28 then some ⟨t9,t4,fcBadT.sh⟩ else none,clv:=fun k=>none }
theorem U_k12_ok:FnTabOk Tryd.prog U_k12 where
 fnv:=by
  intro k v h
  simp only [U_k12] at h
  split at h
  ·cases h;subst_vars;exact spec_k28
  cases h
 clv:=by
  intro k v h
  simp only [U_k12] at h
  cases h
def Psi_k12 (k:Nat):Option KC:=if k=27 then some (.sc ⟨(.prod t22 t44),t4,(fcContainsFunc .str).sh,true⟩) else if k=30 then some (.sc ⟨t22,t9,fcFile.sh,true⟩) else none
theorem Psi_k12_ok:PsiOk Tryd.prog U_k12 Psi_k12:=by
 intro k c h
 unfold Psi_k12 at h
 split at h
 ·cases h;subst_vars;exact ⟨spec_k27,fun _ _=>M.det_det⟩
 split at h
 ·cases h;subst_vars;exact ⟨spec_k30,fun _ _=>M.det_det⟩
 cases h
def ann_k12:Ann:=(.seq .leaf (.seq (.seq .leaf (.cond (.seq .leaf .leaf) .leaf)) (.seq (.seq .leaf (.cond (.seq .leaf .leaf) .leaf)) (.seq .leaf .leaf))))
theorem l_k12 (x):funI U_k12 (tabT tab) noPhi Psi_k12 Tryd.f12 b_k12 ann_k12 t22 (.prod t9 t26) x=S_files_Write (fcContainsFunc .str).sh fcFile.sh fcBadT.sh x:=by kernel_rfl
theorem spec_k12:FnSpec Tryd.prog 12 t22 (.prod t9 t26) fcWriteP.sh:=
 fn_ok mixOk tabOk U_k12_ok noPhi_ok Psi_k12_ok Tryd.func12 b_k12_ok (by kernel_rfl) fun x=>M.le_trans (M.le_of_eq (l_k12 x)) (sWriteP x)
def b_k51:Code:=Tryd.f51.body.getD .skip
theorem b_k51_ok:Tryd.f51.body=some b_k51:=by kernel_rfl
def Psi_k51 (k:Nat):Option KC:=if k=29 then some (.sc ⟨t9,t4,fcIsT.sh,true⟩) else none
theorem Psi_k51_ok:PsiOk Tryd.prog noU Psi_k51:=by
 intro k c h
 unfold Psi_k51 at h
 split at h
 ·cases h;subst_vars;exact ⟨spec_k29,fun _ _=>M.det_det⟩
 cases h
def ann_k51:Ann:=(.seq .leaf (.seq .leaf .leaf))
theorem l_k51 (x):codeI noU (tabT tab) noPhi Psi_k51 ann_k51 b_k51 (capsSt 1 (parSt (.prod t55 (.ptr t3)) x)) (retI (tabT tab) Tryd.f51.results.toList t4)=S_files_cut_c1 fcIsT.sh x:=by kernel_rfl
theorem spec_k51:FnSpec Tryd.prog 51 (.prod t55 (.ptr t3)) t4 fcOdd.sh:=
 fnC_ok (n:=1) mixOk tabOk noU_ok noPhi_ok Psi_k51_ok Tryd.func51 b_k51_ok (by kernel_rfl) fun x=>M.le_req (fun h=>by obtain ⟨w,hw⟩:=h;exact caps_pre ⟨trivial,isSome_of hw⟩) (M.le_trans (M.le_of_eq (l_k51 x)) (sOdd x))
def b_k72:Code:=Tryd.f72.body.getD .skip
theorem b_k72_ok:Tryd.f72.body=some b_k72:=by kernel_rfl
def Psi_k72 (k:Nat):Option KC:=none
theorem Psi_k72_ok:PsiOk Tryd.prog noU Psi_k72:=by
 intro k c h
 unfold Psi_k72 at h
 cases h
def ann_k72:Ann:=(.seq .leaf (.join ⟨[],[]⟩ (.seq .leaf (.block (.loop ⟨[(0,.val t63),(1,.val t96),(7,.val t3),(8,.val t3)],[]⟩ (.seq .leaf (.seq (.cond .leaf .leaf) (.seq (.block (.seq .leaf (.seq .leaf (.cond (.seq .leaf .leaf) .leaf)))) .leaf)))))) (.seq .leaf .leaf)))
theorem l_k72 (x):funI noU (tabT tab) noPhi Psi_k72 Tryd.f72 b_k72 ann_k72 (.prod t63 t96) t3 x=S_slices_IndexFunc_files_block_byte  x:=by kernel_rfl
theorem spec_k72:FnSpec Tryd.prog 72 (.prod t63 t96) t3 (fcIndexFunc (.slice (.int .u8))).sh:=
 fn_ok mixOk tabOk noU_ok noPhi_ok Psi_k72_ok Tryd.func72 b_k72_ok (by kernel_rfl) fun x=>M.le_trans (M.le_of_eq (l_k72 x)) (sIndexFuncB x)
def b_k52:Code:=Tryd.f52.body.getD .skip
theorem b_k52_ok:Tryd.f52.body=some b_k52:=by kernel_rfl
def Psi_k52 (k:Nat):Option KC:=if k=72 then some (.sc ⟨(.prod t63 t96),t3,(fcIndexFunc (.slice (.int .u8))).sh,true⟩) else none
theorem Psi_k52_ok:PsiOk Tryd.prog noU Psi_k52:=by
 intro k c h
 unfold Psi_k52 at h
 split at h
 ·cases h;subst_vars;exact ⟨spec_k72,fun _ _=>M.det_det⟩
 cases h
def ann_k52:Ann:=(.seq .leaf (.seq .leaf .leaf))
theorem l_k52 (x):funI noU (tabT tab) noPhi Psi_k52 Tryd.f52 b_k52 ann_k52 (.prod t63 t96) t4 x=S_slices_ContainsFunc_files_block_byte (fcIndexFunc (.slice (.int .u8))).sh x:=by kernel_rfl
theorem spec_k52:FnSpec Tryd.prog 52 (.prod t63 t96) t4 (fcContainsFunc (.slice (.int .u8))).sh:=
 fn_ok mixOk tabOk noU_ok noPhi_ok Psi_k52_ok Tryd.func52 b_k52_ok (by kernel_rfl) fun x=>M.le_trans (M.le_of_eq (l_k52 x)) (sContainsFuncB x)
def b_k65:Code:=Tryd.f65.body.getD .skip
theorem b_k65_ok:Tryd.f65.body=some b_k65:=by kernel_rfl
def Psi_k65 (k:Nat):Option KC:=none
theorem Psi_k65_ok:PsiOk Tryd.prog noU Psi_k65:=by
 intro k c h
 unfold Psi_k65 at h
 cases h
def ann_k65:Ann:=(.seq .leaf (.seq .leaf (.join ⟨[(3,.own 3)],[(3,.arr t9)]⟩ (.seq .leaf (.block (.loop ⟨[(3,.own 3),(11,.val t63),(12,.val t3),(13,.val t3)],[(3,.arr t9)]⟩ (.seq .leaf (.seq (.cond .leaf .leaf) (.seq (.block (.seq .leaf (.seq .leaf .leaf))) .leaf)))))) (.seq .leaf .leaf))))
theorem l_k65 (x):funI noU (tabT tab) noPhi Psi_k65 Tryd.f65 b_k65 ann_k65 t63 t22 x=S_files_block_texts  x:=by kernel_rfl
theorem spec_k65:FnSpec Tryd.prog 65 t63 t22 fcTexts.sh:=
 fn_ok mixOk tabOk noU_ok noPhi_ok Psi_k65_ok Tryd.func65 b_k65_ok (by kernel_rfl) fun x=>M.le_trans (M.le_of_eq (l_k65 x)) (sTextsP x)
def b_k43:Code:=Tryd.f43.body.getD .skip
theorem b_k43_ok:Tryd.f43.body=some b_k43:=by kernel_rfl
def Psi_k43 (k:Nat):Option KC:=if k=12 then some (.sc ⟨t22,(.prod t9 t26),fcWriteP.sh,true⟩) else if k=42 then some (.sc ⟨t63,t9,fcText.sh,true⟩) else if k=46 then some (.io ioc_wstr) else if k=48 then some (.io ioc_bstr) else if k=65 then some (.sc ⟨t63,t22,fcTexts.sh,true⟩) else none
theorem Psi_k43_ok:PsiOk Tryd.prog noU Psi_k43:=by
 intro k c h
 unfold Psi_k43 at h
 split at h
 ·cases h;subst_vars;exact ⟨spec_k12,fun _ _=>M.det_det⟩
 split at h
 ·cases h;subst_vars;exact ⟨spec_k42,fun _ _=>M.det_det⟩
 split at h
 ·cases h;subst_vars;exact io_wstr
 split at h
 ·cases h;subst_vars;exact io_bstr
 split at h
 ·cases h;subst_vars;exact ⟨spec_k65,fun _ _=>M.det_det⟩
 cases h
def ann_k43:Ann:=(.seq .leaf (.seq .leaf (.join ⟨[(0,.val t59),(4,.own 4),(5,.loc 5 0)],[(4,.arr t9),(5,.cells t84 [.nos 5,.own 30000]),(30000,.arr t5)]⟩ .leaf (.join ⟨[(4,.own 4),(5,.loc 5 0)],[(4,.arr t9),(5,.cells t84 [.nos 5,.own 30000]),(30000,.arr t5)]⟩ (.seq .leaf (.block (.loop ⟨[(4,.own 4),(5,.loc 5 0),(10,.val t59),(11,.val t3),(12,.val t3)],[(4,.arr t9),(5,.cells t84 [.nos 5,.own 30000]),(30000,.arr t5)]⟩ (.seq .leaf (.seq (.cond .leaf .leaf) (.seq (.block (.seq .leaf (.seq .leaf .leaf))) .leaf)))))) (.seq .leaf (.seq .leaf .leaf))))))
theorem l_k43 (x):funI noU (tabT tab) noPhi Psi_k43 Tryd.f43 b_k43 ann_k43 t59 (.prod t22 t4) x=S_files_unpack fcWriteP.sh fcText.sh shWStr shBStr fcTexts.sh x:=by kernel_rfl
theorem spec_k43:FnSpec Tryd.prog 43 t59 (.prod t22 t4) fcUnpack.sh:=
 fn_ok mixOk tabOk noU_ok noPhi_ok Psi_k43_ok Tryd.func43 b_k43_ok (by kernel_rfl) fun x=>M.le_trans (M.le_of_eq (l_k43 x)) (sUnpack x)
def b_k54:Code:=Tryd.f54.body.getD .skip
theorem b_k54_ok:Tryd.f54.body=some b_k54:=by kernel_rfl
def Psi_k54 (k:Nat):Option KC:=none
theorem Psi_k54_ok:PsiOk Tryd.prog noU Psi_k54:=by
 intro k c h
 unfold Psi_k54 at h
 cases h
def ann_k54:Ann:=(.seq .leaf (.seq .leaf (.join ⟨[(7,.own 7)],[(7,.arr t5)]⟩ (.seq .leaf (.block (.loop ⟨[(1,.val t3),(7,.own 7),(15,.val t63),(16,.val t3),(17,.val t3)],[(7,.arr t5)]⟩ (.seq .leaf (.seq (.cond .leaf .leaf) (.seq (.block (.seq .leaf .leaf)) .leaf)))))) (.seq .leaf .leaf))))
theorem l_k54 (x):funI noU (tabT tab) noPhi Psi_k54 Tryd.f54 b_k54 ann_k54 (.prod t63 (.prod t3 t3)) t55 x=S_files_block_column  x:=by kernel_rfl
theorem spec_k54:FnSpec Tryd.prog 54 (.prod t63 (.prod t3 t3)) t55 fcColumn.sh:=
 fn_ok mixOk tabOk noU_ok noPhi_ok Psi_k54_ok Tryd.func54 b_k54_ok (by kernel_rfl) fun x=>M.le_trans (M.le_of_eq (l_k54 x)) (sColumn x)
def b_kcolf:Code:=Tryd.f54.body.getD .skip
theorem b_kcolf_ok:Tryd.f54.body=some b_kcolf:=by kernel_rfl
def Psi_kcolf (k:Nat):Option KC:=none
theorem Psi_kcolf_ok:PsiOk Tryd.prog noU Psi_kcolf:=by
 intro k c h
 unfold Psi_kcolf at h
 cases h
def ioc_colf:IOC:=⟨⟨[(0,.val t63),(1,.val t3),(2,.val t3)],[]⟩,⟨[(0,.own 7)],[(7,.arr t5)]⟩,[none],3,shColF⟩
def ann_kcolf:Ann:=(.seq .leaf (.seq .leaf (.join ⟨[(7,.own 7)],[(7,.arr t5)]⟩ (.seq .leaf (.block (.loop ⟨[(1,.val t3),(7,.own 7),(15,.val t63),(16,.val t3),(17,.val t3)],[(7,.arr t5)]⟩ (.seq .leaf (.seq (.cond .leaf .leaf) (.seq (.block (.seq .leaf .leaf)) .leaf)))))) (.seq .leaf .leaf))))
theorem l_kcolf (x):funIO noU (tabT tab) noPhi Psi_kcolf Tryd.f54 b_kcolf ann_kcolf ⟨[(0,.val t63),(1,.val t3),(2,.val t3)],[]⟩ ⟨[(0,.own 7)],[(7,.arr t5)]⟩ [none] x=S_io_colf  x:=by kernel_rfl
theorem io_colf:IoSpec Tryd.prog noU 54 ioc_colf:=
 fnIO_ok mixOk tabOk noPhi_ok Psi_kcolf_ok Tryd.func54 b_kcolf_ok (by kernel_rfl) fun x=>M.le_trans (M.le_of_eq (l_kcolf x)) (sColF x)
theorem colf_fresh:FreshSpec Tryd.prog 54 (.prod t63 (.prod t3 t3)) t55 fcColumn.sh:=(fresh_of_io (ts:=.prod t63 (.prod t3 t3)) (e:=t5) (by decide) rfl io_colf noU_ok (b0:=7) (fun x=>(x.1,x.2.1,x.2.2,())) (fun x=>rfl) rfl (by decide) rfl (fun τ=>τ.1) (fun τ=>⟨rfl,rfl⟩) (fun x h=>⟨h,fun τ ht=>congrArg (fun z=>z.1) ht⟩)).2
def U_raw:FnTab:={ fnv:=fun _=>none,clv:=fun k=>if k=51 then some ⟨[t55],[t3],t4,fcOdd.sh⟩ else none,pcs:=fun k=>if k=42 then some ⟨(.slice t55r),t5,t9,fcText.pre,fcText.g,false⟩ else if k=43 then some ⟨(.slice (.slice t55r)),t5,(.prod t22 t4),fcUnpack.pre,fcUnpack.g,false⟩ else if k=52 then some ⟨(.prod (.slice t55r) t96),t5,t4,(fcContainsFunc (.slice (.int .u8))).pre,(fcContainsFunc (.slice (.int .u8))).g,false⟩ else if k=53 then some ⟨t55r,t5,t5,fcCheckP.pre,fcCheckP.g,false⟩ else if k=54 then some ⟨(.prod (.slice t55r) (.prod t3 t3)),t5,t55,fcColumn.pre,fcColumn.g,true⟩ else none }
theorem U_raw_ok:FnTabOk Tryd.prog U_raw where
 fnv:=by
  intro k v h
  cases h
 clv:=by
  intro k v h
  simp only [U_raw] at h
  split at h
  ·cases h;subst_vars;exact ⟨rfl,spec_k51⟩
  cases h
 pcs:=by
  intro k v h
  simp only [U_raw] at h
  split at h
  ·cases h;subst_vars;exact ⟨spec_k42,fun h=>by cases h⟩
  split at h
  ·cases h;subst_vars;exact ⟨spec_k43,fun h=>by cases h⟩
  split at h
  ·cases h;subst_vars;exact ⟨spec_k52,fun h=>by cases h⟩
  split at h
  ·cases h;subst_vars;exact ⟨spec_k53,fun h=>by cases h⟩
  split at h
  ·cases h;subst_vars;exact ⟨spec_k54,fun _=>colf_fresh⟩
  cases h
def b_kcut:Code:=Tryd.f33.body.getD .skip
theorem b_kcut_ok:Tryd.f33.body=some b_kcut:=by kernel_rfl
def Psi_kcut (k:Nat):Option KC:=if k=49 then some (.sc ⟨(.prod t9 t9),(.prod t9 (.prod t9 t4)),fcCutP.sh,true⟩) else if k=50 then some (.sc ⟨(.prod t9 t9),t22,fcSplitP.sh,true⟩) else none
theorem Psi_kcut_ok:PsiOk Tryd.prog U_raw Psi_kcut:=by
 intro k c h
 unfold Psi_kcut at h
 split at h
 ·cases h;subst_vars;exact ⟨spec_k49,fun _ _=>M.det_det⟩
 split at h
 ·cases h;subst_vars;exact ⟨spec_k50,fun _ _=>M.det_det⟩
 cases h
def ioc_cut:IOC:=⟨⟨[(0,.val t9)],[(150000,.pool t5)]⟩,⟨[(0,.own 50140),(1,.val t4)],[(50140,.arr t63r),(150000,.pool t5)]⟩,[none,none],1,shCut⟩
def ann_kcut:Ann:=(.seq .leaf (.seq .leaf (.join ⟨[(4,.own 4)],[(4,.arr t63r),(150000,.pool t5)]⟩ (.block (.loop ⟨[(0,.val t9),(4,.own 4)],[(4,.arr t63r),(150000,.pool t5)]⟩ (.seq (.seq .leaf (.cond .leaf .leaf)) (.block (.seq .leaf (.seq (.seq .leaf (.cond (.seq .leaf .leaf) .leaf)) (.seq .leaf (.join ⟨[(4,.own 4),(6,.val t9),(8,.own 8)],[(4,.arr t63r),(8,.arr t55r),(150000,.pool t5)]⟩ (.seq .leaf (.block (.loop ⟨[(4,.own 4),(6,.val t9),(8,.own 8),(24,.val t22),(25,.val t3),(26,.val t3)],[(4,.arr t63r),(8,.arr t55r),(150000,.pool t5)]⟩ (.seq .leaf (.seq (.cond .leaf .leaf) (.seq (.block (.seq .leaf .leaf)) .leaf)))))) (.seq .leaf (.seq .leaf (.seq (.seq .leaf (.cond (.seq .leaf .leaf) .leaf)) .leaf))))))))))) (.seq .leaf .leaf))))
theorem l_kcut (x):funIO U_raw (tabT tabR) noPhi Psi_kcut Tryd.f33 b_kcut ann_kcut ⟨[(0,.val t9)],[(150000,.pool t5)]⟩ ⟨[(0,.own 50140),(1,.val t4)],[(50140,.arr t63r),(150000,.pool t5)]⟩ [none,none] x=S_io_cut fcCutP.sh fcSplitP.sh (fcContainsFunc (.slice (.int .u8))).pre (fcContainsFunc (.slice (.int .u8))).g fcOdd.sh x:=by kernel_rfl
theorem io_cut:IoSpec Tryd.prog U_raw 33 ioc_cut:=
 fnIO_ok mixOk tabROk noPhi_ok Psi_kcut_ok Tryd.func33 b_kcut_ok (by kernel_rfl) fun x=>M.le_trans (M.le_of_eq (l_kcut x)) (sCut x)
def b_kl57:Code:=Tryd.f57.body.getD .skip
theorem b_kl57_ok:Tryd.f57.body=some b_kl57:=by kernel_rfl
def Psi_kl57 (k:Nat):Option KC:=none
theorem Psi_kl57_ok:PsiOk Tryd.prog U_raw Psi_kl57:=by
 intro k c h
 unfold Psi_kl57 at h
 cases h
def ioc_l57:IOC:=⟨⟨[(0,.val t5),(1,.loc 100011 0),(2,.loc 100010 0)],[(100010,.whole t66),(100011,.cells t55r [.val t55r]),(150000,.pool t5)]⟩,⟨[(0,.val t4)],[(100010,.whole t66),(100011,.cells t55r [.val t55r]),(150000,.pool t5)]⟩,[none],3,shL57⟩
def ann_kl57:Ann:=(.seq .leaf (.seq .leaf (.seq .leaf (.seq .leaf .leaf))))
theorem l_kl57 (x):funIO U_raw (tabT tabR) noPhi Psi_kl57 Tryd.f57 b_kl57 ann_kl57 ⟨[(0,.val t5),(1,.loc 100011 0),(2,.loc 100010 0)],[(100010,.whole t66),(100011,.cells t55r [.val t55r]),(150000,.pool t5)]⟩ ⟨[(0,.val t4)],[(100010,.whole t66),(100011,.cells t55r [.val t55r]),(150000,.pool t5)]⟩ [none] x=S_io_l57 fcCheckP.pre fcCheckP.g x:=by kernel_rfl
theorem io_l57:IoSpec Tryd.prog U_raw 57 ioc_l57:=
 fnIO_ok mixOk tabROk noPhi_ok Psi_kl57_ok Tryd.func57 b_kl57_ok (by kernel_rfl) fun x=>M.le_trans (M.le_of_eq (l_kl57 x)) (sL57 x)
def b_kidxf:Code:=Tryd.f75.body.getD .skip
theorem b_kidxf_ok:Tryd.f75.body=some b_kidxf:=by kernel_rfl
def Psi_kidxf (k:Nat):Option KC:=if k=57 then some (.io ioc_l57) else none
theorem Psi_kidxf_ok:PsiOk Tryd.prog U_raw Psi_kidxf:=by
 intro k c h
 unfold Psi_kidxf at h
 split at h
 ·cases h;subst_vars;exact io_l57
 cases h
def ioc_idxf:IOC:=⟨⟨[(0,.val t55),(1,.clo 57 [(100011,0),(100010,0)])],[(100010,.whole t66),(100011,.cells t55r [.val t55r]),(150000,.pool t5)]⟩,⟨[(0,.val t3)],[(100010,.whole t66),(100011,.cells t55r [.val t55r]),(150000,.pool t5)]⟩,[none],2,shIdxf⟩
def ann_kidxf:Ann:=(.seq .leaf (.join ⟨[],[(100010,.whole t41),(100011,.cells t55r [.val t55r]),(150000,.pool t5)]⟩ (.seq .leaf (.block (.loop ⟨[(0,.val t55),(1,.clo 57 [(100011,0),(100010,0)]),(7,.val t3),(8,.val t3)],[(100010,.whole t41),(100011,.cells t55r [.val t55r]),(150000,.pool t5)]⟩ (.seq .leaf (.seq (.cond .leaf .leaf) (.seq (.block (.seq .leaf (.seq .leaf (.cond (.seq .leaf .leaf) .leaf)))) .leaf)))))) (.seq .leaf .leaf)))
theorem l_kidxf (x):funIO U_raw (tabT tab) noPhi Psi_kidxf Tryd.f75 b_kidxf ann_kidxf ⟨[(0,.val t55),(1,.clo 57 [(100011,0),(100010,0)])],[(100010,.whole t66),(100011,.cells t55r [.val t55r]),(150000,.pool t5)]⟩ ⟨[(0,.val t3)],[(100010,.whole t66),(100011,.cells t55r [.val t55r]),(150000,.pool t5)]⟩ [none] x=S_io_idxf shL57 x:=by kernel_rfl
theorem io_idxf:IoSpec Tryd.prog U_raw 75 ioc_idxf:=
 fnIO_ok mixOk tabOk noPhi_ok Psi_kidxf_ok Tryd.func75 b_kidxf_ok (by kernel_rfl) fun x=>M.le_trans (M.le_of_eq (l_kidxf x)) (sIdxf x)
def b_kcf:Code:=Tryd.f55.body.getD .skip
theorem b_kcf_ok:Tryd.f55.body=some b_kcf:=by kernel_rfl
def Psi_kcf (k:Nat):Option KC:=if k=75 then some (.io ioc_idxf) else none
theorem Psi_kcf_ok:PsiOk Tryd.prog U_raw Psi_kcf:=by
 intro k c h
 unfold Psi_kcf at h
 split at h
 ·cases h;subst_vars;exact io_idxf
 cases h
def ioc_cf:IOC:=⟨⟨[(0,.val t55),(1,.clo 57 [(100011,0),(100010,0)])],[(100010,.whole t66),(100011,.cells t55r [.val t55r]),(150000,.pool t5)]⟩,⟨[(0,.val t4)],[(100010,.whole t66),(100011,.cells t55r [.val t55r]),(150000,.pool t5)]⟩,[none],2,shCf⟩
def ann_kcf:Ann:=(.seq .leaf (.seq .leaf .leaf))
theorem l_kcf (x):funIO U_raw (tabT tab) noPhi Psi_kcf Tryd.f55 b_kcf ann_kcf ⟨[(0,.val t55),(1,.clo 57 [(100011,0),(100010,0)])],[(100010,.whole t66),(100011,.cells t55r [.val t55r]),(150000,.pool t5)]⟩ ⟨[(0,.val t4)],[(100010,.whole t66),(100011,.cells t55r [.val t55r]),(150000,.pool t5)]⟩ [none] x=S_io_cf shIdxf x:=by kernel_rfl
theorem io_cf:IoSpec Tryd.prog U_raw 55 ioc_cf:=
 fnIO_ok mixOk tabOk noPhi_ok Psi_kcf_ok Tryd.func55 b_kcf_ok (by kernel_rfl) fun x=>M.le_trans (M.le_of_eq (l_kcf x)) (sCf x)
def b_k56:Code:=Tryd.f56.body.getD .skip
theorem b_k56_ok:Tryd.f56.body=some b_k56:=by kernel_rfl
def Psi_k56 (k:Nat):Option KC:=none
theorem Psi_k56_ok:PsiOk Tryd.prog noU Psi_k56:=by
 intro k c h
 unfold Psi_k56 at h
 cases h
def ann_k56:Ann:=(.seq .leaf (.seq .leaf (.join ⟨[(1,.own 1)],[(1,.arr t5)]⟩ (.seq .leaf (.block (.loop ⟨[(1,.own 1),(2,.val t5)],[(1,.arr t5)]⟩ (.seq (.seq .leaf (.cond .leaf .leaf)) (.seq (.block .leaf) .leaf))))) (.seq .leaf .leaf))))
theorem l_k56 (x):funI noU (tabT tab) noPhi Psi_k56 Tryd.f56 b_k56 ann_k56 .unit t55 x=S_files_printable  x:=by kernel_rfl
theorem spec_k56:FnSpec Tryd.prog 56 .unit t55 fcPrintable.sh:=
 fn_ok mixOk tabOk noU_ok noPhi_ok Psi_k56_ok Tryd.func56 b_k56_ok (by kernel_rfl) fun x=>M.le_trans (M.le_of_eq (l_k56 x)) (sPrintable x)
def b_klook:Code:=Tryd.f34.body.getD .skip
theorem b_klook_ok:Tryd.f34.body=some b_klook:=by kernel_rfl
def Psi_klook (k:Nat):Option KC:=if k=55 then some (.io ioc_cf) else if k=56 then some (.sc ⟨.unit,t55,fcPrintable.sh,true⟩) else none
theorem Psi_klook_ok:PsiOk Tryd.prog U_raw Psi_klook:=by
 intro k c h
 unfold Psi_klook at h
 split at h
 ·cases h;subst_vars;exact io_cf
 split at h
 ·cases h;subst_vars;exact ⟨spec_k56,fun _ _=>M.det_det⟩
 cases h
def ioc_look:IOC:=⟨⟨[(0,.val t63r)],[(150000,.pool t5)]⟩,⟨[(0,.val t64),(1,.val t66)],[(150000,.pool t5)]⟩,[none,none],1,shLook⟩
def ann_klook:Ann:=(.seq .leaf (.seq .leaf (.join ⟨[(0,.val t63r),(3,.loc 3 0),(4,.own 4),(5,.own 5)],[(3,.whole t41),(4,.arr t3),(5,.arr t3),(150000,.pool t5)]⟩ (.seq .leaf (.block (.loop ⟨[(0,.val t63r),(3,.loc 3 0),(4,.own 4),(5,.own 5),(13,.val t63r),(14,.val t3),(15,.val t3)],[(3,.whole t41),(4,.arr t3),(5,.arr t3),(150000,.pool t5)]⟩ (.seq .leaf (.seq (.cond .leaf .leaf) (.join ⟨[(0,.val t63r),(3,.loc 3 0),(4,.own 4),(5,.own 5),(13,.val t63r),(14,.val t3),(15,.val t3)],[(3,.whole t41),(4,.arr t3),(5,.arr t3),(150000,.pool t5)]⟩ (.block (.seq .leaf (.seq .leaf (.seq .leaf (.cond .leaf .leaf))))) .leaf)))))) (.join ⟨[(0,.val t63r),(3,.loc 3 0),(4,.own 4),(5,.own 5)],[(3,.whole t41),(4,.arr t3),(5,.arr t3),(150000,.pool t5)]⟩ (.seq .leaf (.block (.loop ⟨[(0,.val t63r),(3,.loc 3 0),(4,.own 4),(5,.own 5),(40,.val t3),(41,.val t3)],[(3,.whole t41),(4,.arr t3),(5,.arr t3),(150000,.pool t5)]⟩ (.seq .leaf (.seq (.cond .leaf .leaf) (.join ⟨[(0,.val t63r),(3,.loc 3 0),(4,.own 4),(5,.own 5),(40,.val t3),(41,.val t3)],[(3,.whole t41),(4,.arr t3),(5,.arr t3),(150000,.pool t5)]⟩ (.block (.seq .leaf (.seq .leaf (.cond .leaf .leaf)))) .leaf)))))) (.seq (.seq .leaf (.cond (.seq .leaf .leaf) .leaf)) (.seq (.seq .leaf (.cond (.seq .leaf .leaf) .leaf)) (.seq .leaf (.seq .leaf (.seq .leaf (.seq (.seq .leaf (.cond (.seq .leaf (.seq .leaf .leaf)) .leaf)) (.seq .leaf .leaf)))))))))))
theorem l_klook (x):funIO U_raw (tabT tabR) noPhi Psi_klook Tryd.f34 b_klook ann_klook ⟨[(0,.val t63r)],[(150000,.pool t5)]⟩ ⟨[(0,.val t64),(1,.val t66)],[(150000,.pool t5)]⟩ [none,none] x=S_io_look fcCheckP.pre fcCheckP.g fcColumn.pre fcColumn.g shCf fcPrintable.sh x:=by kernel_rfl
theorem io_look:IoSpec Tryd.prog U_raw 34 ioc_look:=
 fnIO_ok mixOk tabROk noPhi_ok Psi_klook_ok Tryd.func34 b_klook_ok (by kernel_rfl) fun x=>M.le_trans (M.le_of_eq (l_klook x)) (sLook x)
def b_k32:Code:=Tryd.f32.body.getD .skip
theorem b_k32_ok:Tryd.f32.body=some b_k32:=by kernel_rfl
def Psi_k32 (k:Nat):Option KC:=if k=33 then some (.io ioc_cut) else if k=34 then some (.io ioc_look) else none
theorem Psi_k32_ok:PsiOk Tryd.prog U_raw Psi_k32:=by
 intro k c h
 unfold Psi_k32 at h
 split at h
 ·cases h;subst_vars;exact io_cut
 split at h
 ·cases h;subst_vars;exact io_look
 cases h
def ann_k32:Ann:=(.seq .leaf (.seq .leaf (.seq (.seq .leaf (.cond (.seq .leaf .leaf) .leaf)) (.seq .leaf (.join ⟨[(3,.own 3),(5,.own 50150)],[(3,.arr t3),(50150,.arr t63r),(150000,.pool t5)]⟩ (.seq .leaf (.block (.loop ⟨[(3,.own 3),(5,.own 50150),(7,.val t3),(20,.own 50150),(21,.val t3),(22,.val t3)],[(3,.arr t3),(50150,.arr t63r),(150000,.pool t5)]⟩ (.seq .leaf (.seq (.cond .leaf .leaf) (.seq (.block (.seq .leaf (.seq .leaf (.join ⟨[(3,.own 3),(5,.own 50150),(7,.val t3),(9,.val t63r),(10,.val t3),(20,.own 50150),(21,.val t3),(22,.val t3)],[(3,.arr t3),(50150,.arr t63r),(150000,.pool t5)]⟩ (.seq .leaf (.seq .leaf (.block (.seq .leaf (.cond (.seq .leaf .leaf) (.seq .leaf (.cond .leaf .leaf))))))) (.seq .leaf .leaf))))) .leaf)))))) (.seq .leaf (.seq (.seq .leaf (.cond (.seq .leaf .leaf) .leaf)) (.seq .leaf .leaf))))))))
theorem l_k32 (x):funI U_raw (tabT tabR) noPhi Psi_k32 Tryd.f32 b_k32 ann_k32 t9 (.prod t22 (.prod t56 t26)) x=S_files_read shCut shLook fcText.pre fcText.g fcUnpack.pre fcUnpack.g x:=by kernel_rfl
theorem spec_k32:FnSpec Tryd.prog 32 t9 (.prod t22 (.prod t56 t26)) fcRead.sh:=
 fn_ok mixOk tabROk U_raw_ok noPhi_ok Psi_k32_ok Tryd.func32 b_k32_ok (by kernel_rfl) fun x=>M.le_trans (M.le_of_eq (l_k32 x)) (sRead x)
def b_k15:Code:=Tryd.f15.body.getD .skip
theorem b_k15_ok:Tryd.f15.body=some b_k15:=by kernel_rfl
def Psi_k15 (k:Nat):Option KC:=if k=32 then some (.sc ⟨t9,(.prod t22 (.prod t56 t26)),fcRead.sh,true⟩) else none
theorem Psi_k15_ok:PsiOk Tryd.prog noU Psi_k15:=by
 intro k c h
 unfold Psi_k15 at h
 split at h
 ·cases h;subst_vars;exact ⟨spec_k32,fun _ _=>M.det_det⟩
 cases h
def ann_k15:Ann:=(.seq .leaf (.seq .leaf (.join ⟨[(2,.val t22),(3,.own 3),(4,.val t3)],[(3,.arr t3)]⟩ (.seq .leaf (.block (.loop ⟨[(2,.val t22),(3,.own 3),(4,.val t3),(14,.val t29),(15,.val t3),(16,.val t3)],[(3,.arr t3)]⟩ (.seq .leaf (.seq (.cond .leaf .leaf) (.join ⟨[(2,.val t22),(3,.own 3),(4,.val t3),(14,.val t29),(15,.val t3),(16,.val t3)],[(3,.arr t3)]⟩ (.block (.seq .leaf (.seq .leaf (.cond .leaf .leaf)))) .leaf)))))) (.seq .leaf .leaf))))
theorem l_k15 (x):funI noU (tabT tab) noPhi Psi_k15 Tryd.f15 b_k15 ann_k15 t9 (.prod t22 (.prod t29 t26)) x=S_files_Read fcRead.sh x:=by kernel_rfl
theorem spec_k15:FnSpec Tryd.prog 15 t9 (.prod t22 (.prod t29 t26)) fcReadF.sh:=
 fn_ok mixOk tabOk noU_ok noPhi_ok Psi_k15_ok Tryd.func15 b_k15_ok (by kernel_rfl) fun x=>M.le_trans (M.le_of_eq (l_k15 x)) (sReadF x)
def b_k16:Code:=Tryd.f16.body.getD .skip
theorem b_k16_ok:Tryd.f16.body=some b_k16:=by kernel_rfl
def Psi_k16 (k:Nat):Option KC:=if k=32 then some (.sc ⟨t9,(.prod t22 (.prod t56 t26)),fcRead.sh,true⟩) else none
theorem Psi_k16_ok:PsiOk Tryd.prog noU Psi_k16:=by
 intro k c h
 unfold Psi_k16 at h
 split at h
 ·cases h;subst_vars;exact ⟨spec_k32,fun _ _=>M.det_det⟩
 cases h
def ann_k16:Ann:=(.seq .leaf (.seq .leaf (.seq .leaf .leaf)))
theorem l_k16 (x):funI noU (tabT tab) noPhi Psi_k16 Tryd.f16 b_k16 ann_k16 t9 (.prod t29 t26) x=S_files_Damage fcRead.sh x:=by kernel_rfl
theorem spec_k16:FnSpec Tryd.prog 16 t9 (.prod t29 t26) fcDamage.sh:=
 fn_ok mixOk tabOk noU_ok noPhi_ok Psi_k16_ok Tryd.func16 b_k16_ok (by kernel_rfl) fun x=>M.le_trans (M.le_of_eq (l_k16 x)) (sDamage x)
def b_k17:Code:=Tryd.f17.body.getD .skip
theorem b_k17_ok:Tryd.f17.body=some b_k17:=by kernel_rfl
def Psi_k17 (k:Nat):Option KC:=if k=33 then some (.io ioc_cut) else if k=34 then some (.io ioc_look) else none
theorem Psi_k17_ok:PsiOk Tryd.prog U_raw Psi_k17:=by
 intro k c h
 unfold Psi_k17 at h
 split at h
 ·cases h;subst_vars;exact io_cut
 split at h
 ·cases h;subst_vars;exact io_look
 cases h
def ann_k17:Ann:=(.seq .leaf (.seq .leaf (.seq (.seq .leaf (.cond (.seq .leaf .leaf) .leaf)) (.join ⟨[(3,.val t3),(5,.own 50130)],[(50130,.arr t63r),(150000,.pool t5)]⟩ (.seq .leaf (.block (.loop ⟨[(3,.val t3),(5,.own 50130),(18,.own 50130),(19,.val t3),(20,.val t3)],[(50130,.arr t63r),(150000,.pool t5)]⟩ (.seq .leaf (.seq (.cond .leaf .leaf) (.join ⟨[(3,.val t3),(5,.own 50130),(18,.own 50130),(19,.val t3),(20,.val t3)],[(50130,.arr t63r),(150000,.pool t5)]⟩ (.block (.seq .leaf (.seq .leaf (.seq .leaf (.cond .leaf .leaf))))) .leaf)))))) (.seq .leaf .leaf)))))
theorem l_k17 (x):funI U_raw (tabT tabR) noPhi Psi_k17 Tryd.f17 b_k17 ann_k17 t9 (.prod t3 (.prod t3 t26)) x=S_files_Check shCut shLook x:=by kernel_rfl
theorem spec_k17:FnSpec Tryd.prog 17 t9 (.prod t3 (.prod t3 t26)) fcCheckF.sh:=
 fn_ok mixOk tabROk U_raw_ok noPhi_ok Psi_k17_ok Tryd.func17 b_k17_ok (by kernel_rfl) fun x=>M.le_trans (M.le_of_eq (l_k17 x)) (sCheckF x)
def b_k25:Code:=Tryd.f25.body.getD .skip
theorem b_k25_ok:Tryd.f25.body=some b_k25:=by kernel_rfl
def Psi_k25 (k:Nat):Option KC:=if k=33 then some (.io ioc_cut) else if k=34 then some (.io ioc_look) else none
theorem Psi_k25_ok:PsiOk Tryd.prog U_raw Psi_k25:=by
 intro k c h
 unfold Psi_k25 at h
 split at h
 ·cases h;subst_vars;exact io_cut
 split at h
 ·cases h;subst_vars;exact io_look
 cases h
def ann_k25:Ann:=(.seq .leaf (.seq .leaf (.seq .leaf (.seq (.seq .leaf (.cond (.seq .leaf .leaf) .leaf)) (.join ⟨[(6,.own 50190)],[(50190,.arr t63r),(150000,.pool t5)]⟩ (.seq .leaf (.block (.loop ⟨[(6,.own 50190),(8,.own 50240),(40,.own 50190),(41,.val t3),(42,.val t3)],[(50190,.arr t63r),(50240,.arr t63r),(150000,.pool t5)]⟩ (.seq .leaf (.seq (.cond .leaf .leaf) (.join ⟨[(6,.own 50190),(8,.own 50240),(40,.own 50190),(41,.val t3),(42,.val t3)],[(50190,.arr t63r),(50240,.arr t63r),(150000,.pool t5)]⟩ (.block (.seq .leaf (.seq .leaf (.seq .leaf (.block (.seq .leaf (.cond (.seq .leaf .leaf) (.seq .leaf (.cond .leaf (.seq .leaf (.cond (.seq .leaf .leaf) .leaf))))))))))) .leaf)))))) (.seq .leaf (.seq (.seq .leaf (.cond (.seq .leaf .leaf) .leaf)) (.seq .leaf .leaf))))))))
theorem l_k25 (x):funI U_raw (tabT tabR) noPhi Psi_k25 Tryd.f25 b_k25 ann_k25 (.prod t9 t9) (.prod t22 t26) x=S_files_Join shCut shLook fcText.pre fcText.g fcUnpack.pre fcUnpack.g x:=by kernel_rfl
theorem spec_k25:FnSpec Tryd.prog 25 (.prod t9 t9) (.prod t22 t26) fcJoin.sh:=
 fn_ok mixOk tabROk U_raw_ok noPhi_ok Psi_k25_ok Tryd.func25 b_k25_ok (by kernel_rfl) fun x=>M.le_trans (M.le_of_eq (l_k25 x)) (sJoin x)
end Go.Fer.Sk
namespace Go.Fer.Sk
open Go.Proofs
open M (Step)
set_option maxRecDepth 100000
set_option linter.unusedVariables false
set_option linter.unusedSimpArgs false
def b_k18:Code:=Tryd.f18.body.getD .skip
theorem b_k18_ok:Tryd.f18.body=some b_k18:=by kernel_rfl
def Psi_k18 (k:Nat):Option KC:=none
theorem Psi_k18_ok:PsiOk Tryd.prog noU Psi_k18:=by
 intro k c h
 unfold Psi_k18 at h
 cases h
def ann_k18:Ann:=(.seq .leaf (.seq (.seq .leaf (.cond (.seq .leaf .leaf) .leaf)) (.join ⟨[],[]⟩ (.seq .leaf (.block (.loop ⟨[(0,.val t22),(1,.val t22),(5,.val t3)],[]⟩ (.seq (.seq .leaf (.cond .leaf .leaf)) (.seq (.block (.seq .leaf (.cond (.seq .leaf .leaf) .leaf))) .leaf))))) (.seq .leaf .leaf))))
theorem l_k18 (x):funI noU (tabT tab) noPhi Psi_k18 Tryd.f18 b_k18 ann_k18 (.prod t22 t22) t4 x=S_law14_sameTexts  x:=by kernel_rfl
theorem spec_k18:FnSpec Tryd.prog 18 (.prod t22 t22) t4 fcSameT.sh:=
 fn_ok mixOk tabOk noU_ok noPhi_ok Psi_k18_ok Tryd.func18 b_k18_ok (by kernel_rfl) fun x=>M.le_trans (M.le_of_eq (l_k18 x)) (sSameT14 x)
def b_k24:Code:=Tryd.f24.body.getD .skip
theorem b_k24_ok:Tryd.f24.body=some b_k24:=by kernel_rfl
def Psi_k24 (k:Nat):Option KC:=none
theorem Psi_k24_ok:PsiOk Tryd.prog noU Psi_k24:=by
 intro k c h
 unfold Psi_k24 at h
 cases h
def ann_k24:Ann:=(.seq .leaf (.seq (.seq .leaf (.cond (.seq .leaf .leaf) .leaf)) (.join ⟨[],[]⟩ (.seq .leaf (.block (.loop ⟨[(0,.val t29),(1,.val t29),(5,.val t3)],[]⟩ (.seq (.seq .leaf (.cond .leaf .leaf)) (.seq (.block (.seq .leaf (.cond (.seq .leaf .leaf) .leaf))) .leaf))))) (.seq .leaf .leaf))))
theorem l_k24 (x):funI noU (tabT tab) noPhi Psi_k24 Tryd.f24 b_k24 ann_k24 (.prod t29 t29) t4 x=S_law14_sameInts  x:=by kernel_rfl
theorem spec_k24:FnSpec Tryd.prog 24 (.prod t29 t29) t4 fcSameI.sh:=
 fn_ok mixOk tabOk noU_ok noPhi_ok Psi_k24_ok Tryd.func24 b_k24_ok (by kernel_rfl) fun x=>M.le_trans (M.le_of_eq (l_k24 x)) (sSameI14 x)
def b_k11:Code:=Tryd.f11.body.getD .skip
theorem b_k11_ok:Tryd.f11.body=some b_k11:=by kernel_rfl
def Psi_k11 (k:Nat):Option KC:=if k=12 then some (.sc ⟨t22,(.prod t9 t26),fcWriteP.sh,true⟩) else if k=15 then some (.sc ⟨t9,(.prod t22 (.prod t29 t26)),fcReadF.sh,true⟩) else if k=16 then some (.sc ⟨t9,(.prod t29 t26),fcDamage.sh,true⟩) else if k=17 then some (.sc ⟨t9,(.prod t3 (.prod t3 t26)),fcCheckF.sh,true⟩) else if k=18 then some (.sc ⟨(.prod t22 t22),t4,fcSameT.sh,true⟩) else if k=24 then some (.sc ⟨(.prod t29 t29),t4,fcSameI.sh,true⟩) else none
theorem Psi_k11_ok:PsiOk Tryd.prog noU Psi_k11:=by
 intro k c h
 unfold Psi_k11 at h
 split at h
 ·cases h;subst_vars;exact ⟨spec_k12,fun _ _=>M.det_det⟩
 split at h
 ·cases h;subst_vars;exact ⟨spec_k15,fun _ _=>M.det_det⟩
 split at h
 ·cases h;subst_vars;exact ⟨spec_k16,fun _ _=>M.det_det⟩
 split at h
 ·cases h;subst_vars;exact ⟨spec_k17,fun _ _=>M.det_det⟩
 split at h
 ·cases h;subst_vars;exact ⟨spec_k18,fun _ _=>M.det_det⟩
 split at h
 ·cases h;subst_vars;exact ⟨spec_k24,fun _ _=>M.det_det⟩
 cases h
def ann_k11:Ann:=(.seq .leaf (.seq .leaf (.seq .leaf (.seq .leaf (.seq .leaf (.seq .leaf .leaf))))))
theorem l_k11 (x):funI noU (tabT tab) noPhi Psi_k11 Tryd.f11 b_k11 ann_k11 .unit t4 x=S_law14_works fcWriteP.sh fcReadF.sh fcDamage.sh fcCheckF.sh fcSameT.sh fcSameI.sh x:=by kernel_rfl
theorem spec_k11:FnSpec Tryd.prog 11 .unit t4 fcWorks.sh:=
 fn_ok mixOk tabOk noU_ok noPhi_ok Psi_k11_ok Tryd.func11 b_k11_ok (by kernel_rfl) fun x=>M.le_trans (M.le_of_eq (l_k11 x)) (sWorks x)
end Go.Fer.Sk
namespace Go.Fer.Sk
open Go.Proofs
open M (Step)
set_option maxRecDepth 100000
set_option linter.unusedVariables false
set_option linter.unusedSimpArgs false
def b_k9:Code:=Tryd.f9.body.getD .skip
theorem b_k9_ok:Tryd.f9.body=some b_k9:=by kernel_rfl
def Psi_k9 (k:Nat):Option KC:=if k=11 then some (.sc ⟨.unit,t4,fcWorks.sh,true⟩) else if k=18 then some (.sc ⟨(.prod t22 t22),t4,fcSameT.sh,true⟩) else if k=25 then some (.sc ⟨(.prod t9 t9),(.prod t22 t26),fcJoin.sh,true⟩) else if k=26 then some (.sc ⟨(.prod t9 t9),(.prod t22 t26),fcJoin.sh,true⟩) else none
theorem Psi_k9_ok:PsiOk Tryd.prog noU Psi_k9:=by
 intro k c h
 unfold Psi_k9 at h
 split at h
 ·cases h;subst_vars;exact ⟨spec_k11,fun _ _=>M.det_det⟩
 split at h
 ·cases h;subst_vars;exact ⟨spec_k18,fun _ _=>M.det_det⟩
 split at h
 ·cases h;subst_vars;exact ⟨spec_k25,fun _ _=>M.det_det⟩
 split at h
 ·cases h;subst_vars;exact ⟨spec_k26,fun _ _=>M.det_det⟩
 cases h
def ann_k9:Ann:=(.seq .leaf (.seq (.seq .leaf (.cond (.seq .leaf .leaf) .leaf)) (.seq .leaf (.seq .leaf (.seq .leaf .leaf)))))
theorem l_k9 (x):funI noU (tabT tab) noPhi Psi_k9 Tryd.f9 b_k9 ann_k9 (.prod t9 t9) t4 x=S_law14_FilesJoined fcWorks.sh fcSameT.sh fcJoin.sh fcJoin.sh x:=by kernel_rfl
theorem spec_k9:FnSpec Tryd.prog 9 (.prod t9 t9) t4 (fun x=>S_law14_FilesJoined fcWorks.sh fcSameT.sh fcJoin.sh fcJoin.sh x):=
 fn_ok mixOk tabOk noU_ok noPhi_ok Psi_k9_ok Tryd.func9 b_k9_ok (by kernel_rfl) fun x=>M.le_of_eq (l_k9 x)
end Go.Fer.Sk
namespace Go.Fer.Sk
open Go Go.Proofs
set_option linter.unusedVariables false
theorem handed_shaped {H:Type} {enc:TypeId×Value→H} {a:Assume} {C:Checked} {os:Os} {f:FuncId} {fn:Func} {s:ChangeSpec} {conds:List PathCond} {apart fresh handsOn again:Bool} {X:World→Array Value→Prop}
  (hX:∀ (w w':World) (args:Array Value),w.heap=w'.heap→X w args→X w' args)
  (own:ownKnob C.prog.godebug=none) (started:os.Started) (noInit:C.prog.inits.idxOf? f=none) (hfn:C.prog.funcs[f]?=some fn)
  (witness:∃ (w:World) (tape:Tape) (i:Input),w.os=os∧(w.forCall tape i).Shaped C.prog∧i.vars=[]∧Input.okWide C.prog (w.forCall tape i) .any w.heap.size f i∧
   ((s.pre enc C.prog fn conds apart (w.forCall tape i).memory i.args∧X (w.forCall tape i).memory i.args)∧sizedMet enc C.prog fn (OpenSpec.ofChange s) apart (w.forCall tape i).memory i.args)∧a.holds C.prog (lone (Frame.enter C.prog f i.args .normal) [] (w.forCall tape i)))
  (contract:∀ (W:World) (base:Nat) (args:Array Value) (ds gs:List (DataW H)) (before:List MemPlace),
   (∀ (j:Nat) t v,fn.params[j]?=some t→args[j]?=some v→Value.okWide C.prog W .any base t v)→
   DataW.Whole enc C.prog fn.params.toList s.vars apart W args.toList ds gs before→
   W.ShapedOpen C.prog→
   Calls C.prog f args W fun e W'=>∃ v,e=.returned v∧s.post enc C.prog fn apart fresh handsOn again W args v W') :
  ReturnsInHanded a C os f .any (fun w args=>(s.pre enc C.prog fn conds apart w args∧X w args)∧sizedMet enc C.prog fn (OpenSpec.ofChange s) apart w args) (s.post enc C.prog fn apart fresh handsOn again):=by
 refine returnsInHanded_of_calls own started noInit witness ?_
 intro w tape i _ hsh _ hok hpre hholds
 obtain ⟨_,_,_,fn',hfn',_,_,_,_,hval⟩:=hok
 have e:fn'=fn:=Option.some.inj (hfn'.symm.trans hfn)
 subst e
 obtain ⟨⟨⟨ds,gs,before,hw,hc⟩,hx⟩,hz⟩:=hpre
 have hw':=DataW.Whole.of_heap (w':=w.forCall tape i) (by rfl) hw
 refine (contract (w.forCall tape i) w.heap.size i.args ds gs before hval hw' hsh).mono fun e W' ⟨v,he,hp⟩=>?_
 subst he
 exact ChangeSpec.post_blind hp
theorem glob_ok {W:World} (h:W.ShapedOpen Tryd.prog):GlOk Tryd.prog (AllF W) W:=fun _=>by
 have hc:∃ m,W.cell? ⟨0,0,none⟩=some (.int .i64 m):=cell_of_shapedOpen_int (t:=3) (zero:=#[.int .i64 0]) h (of_decide_eq_true (by kernel_rfl)) (by kernel_rfl) rfl (by kernel_rfl) (by kernel_rfl) Tryd.underlying3
 refine ⟨?_,hc⟩
 obtain ⟨m,hm⟩:=hc
 unfold World.cell? at hm
 show 0<W.heap.size
 rcases Nat.eq_zero_or_pos W.heap.size with e | e
 ·have:W.heap[0]?=none:=Array.getElem?_eq_none (by omega)
  rw [this] at hm
  cases hm
 ·exact e
end Go.Fer.Sk
