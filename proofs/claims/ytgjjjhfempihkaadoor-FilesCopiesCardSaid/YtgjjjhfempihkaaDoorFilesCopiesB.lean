/- Part 2 of the proof of FilesCopies: shallow programs of Go functions, and what they compute. No condition. -/
import Derived.Test.YtgjjjhfempihkaaDoorFilesCopiesA
import Derived.Laws.BytesString
noncomputable section
namespace Go.Fer
open Go.RowKit
section
variable {C:Ctx} {T:Nat→Ty} {Φ:Nat→Option FC} {o:Oper} {s:AState} {res:OpRes}
theorem RelK.same {a:Act} {w:World} {κ:Nat→KB} {F:Nat→Prop} {s':AState} (h:RelK C s a w κ F) (e1:s'.slot=s.slot) (e2:s'.blk=s.blk):RelK C s' a w κ F:=by
 have:s'=s:=by cases s';cases s;simp_all
 rw [this];exact h
theorem storeVar_run {P:Program} {w w':World} {t:Ty} {id:TypeId} (h:TyIs P t id) {p:Addr} {v:Value} (hsz:v.cells.size=t.size) (hs:(storeCells p v.cells.toList).run P w=.ok () w'):(storeVar id p v).run P w=.ok () w':=by
 simp [storeVar,h.size,hsz,hs]
theorem ok_store (hT:TabOk C.P T) {ty:TypeId} {x y:Operand} (hdst:o.dst=none) (ho:o.op=.store ty x y) (h:(opV0 C.ft T Φ (opAV C.ft s.slot) o).run s.blk=some res):OpOk C o s res:=by
 simp only [opV0,ho,Rd.run_bindO,Option.bind_eq_some_iff,Rd.run_ret,Option.some.injEq] at h
 obtain ⟨wl,hwl,rfl⟩:=h
 intro a w κ F Q hr hob _
 have hp:RA C.P s.blk κ F w (use (opAV C.ft s.slot x)).2 (a.eval x):=use_op hr x rfl hob.1
 have hv:RA C.P s.blk κ F w (use (opAV C.ft s.slot y)).2 (a.eval y):=use_op hr y rfl hob.2
 generalize (use (opAV C.ft s.slot x)).2=px at *
 generalize (use (opAV C.ft s.slot y)).2=vy at *
 have hd:∀ c,o.op≠.defer c:=by rw [ho];intro c hc;cases hc
 have fin:∀ w',(Instr.storeAt ty (a.eval x) (a.eval y)).run C.P w=.ok () w'→Rel C (s.setBs wl) a w'→o.wpIn (rnd C.r) 0 C.P a w (fun a' w'=>Rel C (s.app o.dst ⟨(use (opAV C.ft s.slot x)).1∧(use (opAV C.ft s.slot y)).1,True,.undef,wl⟩) a' w') Q:=by
  intro w' h1 h2
  refine oper_skip (w':=w') hd (by simp [execOp,ho,h1]) ?_
  rw [hdst]
  exact h2
 unfold storeV at hwl
 cases px with
 | loc b g off=>
  simp only [Rd.run_get,Rd.run_ret] at hwl
  split at hwl
  ·rename_i hg
   split at hwl
   ·rename_i n f hbody
    simp only [Option.bind_eq_some_iff] at hwl
    obtain ⟨l,hl,hwl⟩:=hwl
    split at hwl
    ·rename_i hc
     simp only [Option.some.injEq] at hwl
     subst hwl
     have hpv:=hp.2 hg.symm (by rw [hbody];rfl)
     have hal:=cellsOf_ok hl hv
     have hB:=hr.blks b
     unfold HB at hB
     rw [hbody] at hB
     obtain ⟨cs,T',c1,c2,c3⟩:=hB
     have hlen:=hal.len
     have hone:∀ u∈(a.eval y).cells.toList,u.oneCell'=true:=by
      intro u hu
      obtain ⟨i,hi,rfl⟩:=List.mem_iff_getElem.1 hu
      have:=(hal.nth i (by rw [hlen];exact hi)).2
      rw [List.getD_eq_getElem?_getD,List.getElem?_eq_getElem hi] at this
      exact this
     obtain ⟨w',cs',r1,r2,r3,r4,r5,r6⟩:=storeCells_ok (P:=C.P) (a.eval y).cells.toList off 0 w cs c1 (by rw [←hlen];omega) hone
     have hsz:(a.eval y).cells.size=(T ty).size:=by rw [←Array.length_toList,←hlen,hc.2]
     have htu:T ty≠.unit:=by
      intro e
      rw [e] at hl
      cases vy<;>simp [cellsOf,Ty.isLeaf] at hl
     refine fin w' (by rw [hpv];simp [Instr.storeAt,Instr.sureAddr,storeVar_run (hT.is rfl htu) hsz r1]) ⟨κ,F,?_⟩
     have hl2:Later s.blk κ (fun i=>if i=b then (⟨(s.blk b).gen,.cells n (putCells f off l)⟩:ABlk) else s.blk i) κ:=
      later_same rfl (fun _=>by rw [hbody];rfl) (fun h=>by cases h) (fun h=>by cases h) (fun h=>by cases h)
     refine (hr.write (b:=b) (x:=⟨(s.blk b).gen,.cells n (putCells f off l)⟩) (by rw [hbody];rfl) rfl hl2 (fun _=>by rw [hbody];rfl) (fun h=>by cases h) r4 r5 r6 fun H hH hlt he=>?_)
     have hsz':cs'.size=n.size:=by
      rw [←Array.length_toList,r3]
      simp only [List.length_append,List.length_take,List.length_drop,Array.length_toList]
      have:l.length=(a.eval y).cells.size:=by simpa using hlen
      omega
     refine ⟨cs',T',r2,⟨hsz',c2.2⟩,fun i hi=>?_⟩
     have e0:cs'.getD i Go.undef=cs'.toList.getD i Go.undef:=by simp [Array.getD_eq_getD_getElem?,List.getD_eq_getElem?_getD]
     rw [e0,r3]
     have hll:l.length=(a.eval y).cells.toList.length:=hlen
     simp only [Nat.add_zero]
     have htk:(cs.toList.take off).length=off:=by simp;omega
     unfold putCells
     by_cases hin:off≤i∧i<off+l.length
     ·rw [if_pos hin]
      have e1:(cs.toList.take off++((a.eval y).cells.toList++cs.toList.drop (off+(a.eval y).cells.toList.length))).getD i Go.undef=(a.eval y).cells.toList.getD (i - off) Go.undef:=by
       rw [List.getD_eq_getElem?_getD,List.getElem?_append_right (by omega),htk,List.getElem?_append_left (by omega),←List.getD_eq_getElem?_getD]
      rw [e1]
      have:=hal.nth (i - off) (by omega)
      exact ⟨RA.later hlt (fun _ hr=>hr) he this.1,this.2⟩
     ·rw [if_neg hin]
      have e1:(cs.toList.take off++((a.eval y).cells.toList++cs.toList.drop (off+(a.eval y).cells.toList.length))).getD i Go.undef=cs.getD i Go.undef:=by
       rcases Nat.lt_or_ge i off with h1 | h1
       ·rw [List.getD_eq_getElem?_getD,List.getElem?_append_left (by omega)]
        simp [Array.getD_eq_getD_getElem?,h1]
       ·rw [List.getD_eq_getElem?_getD,List.getElem?_append_right (by omega),htk,List.getElem?_append_right (by omega),List.getElem?_drop]
        rw [show off+(a.eval y).cells.toList.length+(i - off - (a.eval y).cells.toList.length)=i from by omega]
        simp [Array.getD_eq_getD_getElem?]
      rw [e1]
      exact ⟨RA.later hlt (fun _ hr=>hr) he (c3 i hi).1,(c3 i hi).2⟩
    ·cases hwl
   ·cases hwl
  ·cases hwl
 | elm b g i off=>
  simp only [Rd.run_bindO,Option.bind_eq_some_iff,Rd.run_bind,Rd.run_get,Rd.run_ret] at hwl
  obtain ⟨⟨z,l⟩,hz,hwl⟩:=hwl
  split at hwl
  ·rename_i hg
   obtain ⟨hg,hnb⟩:=hg
   have hnb:b ∉ l:=by simpa using hnb
   split at hwl
   ·rename_i e xs hbody
    simp only [Option.map_eq_some_iff] at hwl
    obtain ⟨z',hz',rfl⟩:=hwl
    obtain ⟨p1,p2,p3⟩:=hp.2 hg.symm (by rw [hbody];rfl)
    rw [hbody] at p1 p3
    simp only [Body.len,Body.esz] at p1 p3
    obtain ⟨F',f1,hr',f2⟩:=RelK.frzL (asDen_closed hz) hr
    have hden:=asDen_ok hr.blks f1 hz f2 hv
    have hbody':((s.frz l).blk b)=s.blk b:=by simp [AState.frz,hnb]
    have hB:=hr'.blks b
    unfold HB at hB
    rw [hbody',hbody] at hB
    obtain ⟨cs,T',c1,c2,c3,c4,c5⟩:=hB.2 p2
    obtain ⟨ds,d1,d2⟩:=c5 i p1
    have hxi:xs.getD i e.dflt=xs[i]:=by simp [List.getD_eq_getElem?_getD,p1]
    rw [hxi] at hz'
    have hdl:=RC_len e d2
    obtain ⟨q1,q2,q3,hq,ql1,ql2,ql3⟩:=compSet_ok e d2 hz' hden.2
    have htu:T ty≠.unit:=by
     intro e'
     have:=hden.1
     rw [e'] at this
     exact this
    have hvl:(a.eval y).cells.toList.length=(T ty).size:=hden.1.len
    have hlt2:(i+1)*e.size≤(κ b).cap*e.size:=Nat.mul_le_mul_right _ (by omega)
    have hbound:off+(T ty).size≤e.size:=by
     have:=congrArg List.length hq
     simp at this
     omega
    have hone:∀ u∈(a.eval y).cells.toList,u.oneCell'=true:=by
     intro u hu
     have hal:=leafs_ok (P:=C.P) (H:=fun _=>⟨0,.dead⟩) (κ:=fun _=>⟨0,0,0,true⟩) (T ty) hden.2
     obtain ⟨j,hj,rfl⟩:=List.mem_iff_getElem.1 hu
     have:=(hal.nth j (by rw [hal.len];exact hj)).2
     rw [List.getD_eq_getElem?_getD,List.getElem?_eq_getElem hj] at this
     exact this
    have hpos:(κ b).off+i*e.size+off+0+(a.eval y).cells.toList.length≤cs.size:=by
     rw [hvl]
     have:(i+1)*e.size=i*e.size+e.size:=by rw [Nat.add_mul];simp
     omega
    obtain ⟨w',cs',r1,r2,r3,r4,r5,r6⟩:=storeCells_ok (P:=C.P) (a.eval y).cells.toList ((κ b).off+i*e.size+off) 0 w cs c1 hpos hone
    refine fin w' (by rw [p3];simp [Instr.storeAt,Instr.sureAddr,storeVar_run (hT.is rfl htu) (by simpa using hvl) r1]) ⟨κ,F',?_⟩
    have hset:s.setBs ((frzB l).run s.blk++[(b,⟨(s.blk b).gen,.arr e (xs.set i z')⟩)])=(s.frz l).setB b ⟨(s.blk b).gen,.arr e (xs.set i z')⟩:=by
     rw [setBs_snoc,setBs_frz]
    rw [hset]
    have hl2:Later (s.frz l).blk κ (fun i'=>if i'=b then (⟨(s.blk b).gen,.arr e (xs.set i z')⟩:ABlk) else (s.frz l).blk i') κ:=
     later_same (by rw [hbody']) (fun h=>by cases h) (fun _=>by rw [hbody',hbody];exact ⟨rfl,by simp [Body.len],rfl⟩) (fun h=>by cases h) (fun h=>by cases h)
    have hbnil:(κ b).isNil=false:=p2
    refine hr'.write (b:=b) (x:=⟨(s.blk b).gen,.arr e (xs.set i z')⟩) (by rw [hbody',hbody];simp [Body.owned,hbnil]) (by simp [Body.owned,hbnil]) hl2 (fun h=>by cases h) (fun h=>by cases h) r4 r5 r6 fun H hH hlt he=>?_
    refine ⟨fun hn=>(by rw [hbnil] at hn;cases hn),fun _=>?_⟩
    have hsz':cs'.size=cs.size:=by
     rw [←Array.length_toList,r3]
     simp only [List.length_append,List.length_take,List.length_drop,Array.length_toList]
     simp only [Array.length_toList] at hpos
     omega
    refine ⟨cs',T',r2,by omega,by simpa using c3,c4,fun j hj=>?_⟩
    have hj':j<xs.length:=by simpa using hj
    simp only [Nat.add_zero] at r3 hpos
    have hget:∀ k,cs'[k]?=if (κ b).off+i*e.size+off≤k∧k<(κ b).off+i*e.size+off+(T ty).size then (a.eval y).cells.toList[k - ((κ b).off+i*e.size+off)]? else cs[k]?:=by
     intro k
     rw [←Array.getElem?_toList,r3]
     have htk:(cs.toList.take ((κ b).off+i*e.size+off)).length=(κ b).off+i*e.size+off:=by simp;omega
     by_cases hin:(κ b).off+i*e.size+off≤k∧k<(κ b).off+i*e.size+off+(T ty).size
     ·rw [if_pos hin,List.getElem?_append_right (by omega),htk,List.getElem?_append_left (by omega)]
     ·rw [if_neg hin]
      rcases Nat.lt_or_ge k ((κ b).off+i*e.size+off) with h1 | h1
      ·rw [List.getElem?_append_left (by omega)]
       simp [h1]
      ·rw [List.getElem?_append_right (by omega),htk,List.getElem?_append_right (by omega),List.getElem?_drop]
       rw [show (κ b).off+i*e.size+off+(a.eval y).cells.toList.length+(k - ((κ b).off+i*e.size+off) - (a.eval y).cells.toList.length)=k from by omega]
       simp
    by_cases hji:j=i
    ·subst hji
     have e1:(xs.set j z')[j]=z':=by simp
     rw [e1]
     refine ⟨q1++((a.eval y).cells.toList++q3),fun k hk=>?_,RC_mono e (fun _ hr=>hr) he ql3⟩
     rw [hget]
     subst hq
     simp only [List.length_append] at hk hdl
     by_cases hin:off≤k∧k<off+(T ty).size
     ·rw [if_pos (by omega)]
      rw [show (κ b).off+j*e.size+k - ((κ b).off+j*e.size+off)=k - q1.length from by omega]
      rw [List.getElem_append_right (by omega),List.getElem_append_left (by omega)]
      exact List.getElem?_eq_getElem _
     ·rw [if_neg (by omega)]
      rcases Nat.lt_or_ge k off with h1 | h1
      ·rw [List.getElem_append_left (by omega)]
       have:=d1 k (by simp;omega)
       rw [List.getElem_append_left (by omega)] at this
       exact this
      ·rw [List.getElem_append_right (by omega),List.getElem_append_right (by omega)]
       have:=d1 k (by simp;omega)
       rw [List.getElem_append_right (by omega),List.getElem_append_right (by omega)] at this
       rw [this]
       congr 2
       omega
    ·have e1:(xs.set i z')[j]=xs[j]:=by rw [List.getElem_set_ne (Ne.symm hji)]
     rw [e1]
     obtain ⟨ds',d1',d2'⟩:=c5 j hj'
     refine ⟨ds',fun k hk=>?_,RC_mono e (fun _ hr=>hr) he d2'⟩
     rw [hget,if_neg]
     ·exact d1' k hk
     ·have hdl':=RC_len e d2'
      rcases Nat.lt_or_ge j i with h1 | h1
      ·have:(j+1)*e.size≤i*e.size:=Nat.mul_le_mul_right _ (by omega)
       rw [Nat.add_mul] at this
       omega
      ·have:(i+1)*e.size≤j*e.size:=Nat.mul_le_mul_right _ (by omega)
       rw [Nat.add_mul] at this
       omega
   ·cases hwl
  ·cases hwl
 | _=>cases hwl
end
end Go.Fer
namespace Go.Fer
open Go.RowKit
theorem add_addr' {p:Addr} (h:p.spot=none) (n:Nat):p.add n=⟨p.block,p.off+n,none⟩:=by
 obtain ⟨b,o,sp⟩:=p
 simp only at h
 subst h
 exact add_addr b o n
theorem nth_eq {e:Ty} {xs:List e.Den} {i:Int} (h1:0≤i) (h2:i<(xs.length:Int)):nth e xs i=xs[i.toNat]'(by omega):=by
 unfold nth
 simp [List.getD_eq_getElem?_getD,show i.toNat<xs.length by omega]
section
variable {C:Ctx} {T:Nat→Ty} {Φ:Nat→Option FC} {o:Oper} {s:AState} {res:OpRes}
theorem indexAt_run {P:Program} {w:World} {e:Ty} {ty:TypeId} (h:TyIs P (.slice e) ty) {p:Addr} (hp:p.spot=none) {n cap:Nat} {k:IntKind} {i:Int} (h1:0≤i) (h2:i<(n:Int)) :
  (Instr.indexAt ty (.slice (some p) n cap) (.int k i)).run P w=.ok (.pointer (some ⟨p.block,p.off+i.toNat*e.size,none⟩)) w:=by
 obtain ⟨j,hj,hj2,_⟩:=h.sl
 simp [Instr.indexAt,asIntOf,run_underlying' hj,h1,h2,hj2.size,add_addr' hp]
theorem ok_indexAddr (hT:TabOk C.P T) {ty:TypeId} {x i:Operand} (hdst:∀ i,o.dst=some i→i<C.nt) (ho:o.op=.indexAddr ty x i) (h:(opV0 C.ft T Φ (opAV C.ft s.slot) o).run s.blk=some res):OpOk C o s res:=by
 simp only [opV0,ho] at h
 split at h
 ·rename_i e0 k n ht hi
  have hti:=hT.is ht (by simp)
  simp only [okRes,Rd.run_bindO,Option.bind_eq_some_iff,Rd.run_ret,Option.some.injEq] at h
  obtain ⟨⟨c,v⟩,hiv,rfl⟩:=h
  refine OpOk.pure (by rw [ho];intro c hc;cases hc) hdst fun a w κ F hr hob hc=>?_
  have hx:RA C.P s.blk κ F w (use (opAV C.ft s.slot x)).2 (a.eval x):=use_op hr x rfl hob.1
  have h2:=int?_ok (use_op hr i rfl hob.2) hi
  have per:∀ (xs:List e0.Den),RC C.P (.slice e0) F w [a.eval x] xs→0≤n∧n<(xs.length:Int)→∃ r,(execOp a.eval o).run C.P w=.ok (.value r) w∧RA C.P s.blk κ F w (.pp e0 (nth e0 xs n)) r:=by
   intro xs hxs hn
   obtain ⟨a',cap,e1,m1,m2,m3,m4⟩:=hxs
   have e1:=(List.cons.inj e1).1
   cases a' with
   | none=>have:=m3 rfl;omega
   | some p=>
    obtain ⟨n1,n2,n3⟩:=m4 p rfl (by omega)
    obtain ⟨ds,d1,d2⟩:=n3 n.toNat (by omega)
    refine ⟨_,by simp [execOp,ho,e1,h2.1,indexAt_run hti n2 hn.1 hn.2],⟨p.block,p.off+n.toNat*e0.size,none⟩,ds,rfl,d1,?_⟩
    rw [nth_eq hn.1 hn.2]
    exact d2
  unfold indexV at hiv
  split at hiv
  ·rename_i e xs hxe
   simp only [Rd.run_ret] at hiv
   split at hiv
   ·rename_i he
    subst he
    simp only [Option.some.injEq,Prod.mk.injEq] at hiv
    obtain ⟨rfl,rfl⟩:=hiv
    rw [hxe] at hx
    exact per xs ((RV_leaf rfl).1 hx).2 hc
   ·cases hiv
  ·rename_i b g hxe
   rw [hxe] at hx
   simp only [Rd.run_get,Rd.run_ret] at hiv
   split at hiv
   ·rename_i hg
    have hB:=hr.blks b
    unfold HB at hB
    split at hiv
    ·rename_i e xs hbody
     split at hiv
     ·rename_i he
      subst he
      simp only [Option.some.injEq,Prod.mk.injEq] at hiv
      obtain ⟨rfl,rfl⟩:=hiv
      have hv:=hx.2 hg.symm (by rw [hbody];rfl)
      rw [hbody] at hv hB
      have hnil:(κ b).isNil=false:=by
       cases hn:(κ b).isNil with
       | false=>rfl
       | true=>rw [hB.1 hn] at hc;simp at hc;omega
      simp only [KB.slice,hnil,Bool.false_eq_true,if_false,Body.len] at hv
      refine ⟨_,by simp [execOp,ho,hv,h2.1,indexAt_run hti (p:=⟨(κ b).blk,(κ b).off,none⟩) rfl hc.1 hc.2];rfl,⟨hx.1.1,rfl⟩,fun _ _=>?_⟩
      rw [hbody]
      exact ⟨by simp only [Body.len];omega,hnil,rfl⟩
     ·cases hiv
    ·rename_i e xs hbody
     split at hiv
     ·rename_i he
      subst he
      simp only [Option.some.injEq,Prod.mk.injEq] at hiv
      obtain ⟨rfl,rfl⟩:=hiv
      have hv:=hx.2 hg.symm (by rw [hbody];rfl)
      rw [hbody] at hv hB
      simp only [Body.len] at hv
      refine per xs ?_ hc
      rw [hv]
      exact hB
     ·cases hiv
    ·cases hiv
   ·cases hiv
  ·rename_i b g lo hi hxe
   rw [hxe] at hx
   simp only [Rd.run_get,Rd.run_ret] at hiv
   split at hiv
   ·rename_i hg
    have hB:=hr.blks b
    unfold HB at hB
    split at hiv
    ·rename_i e xs hbody
     split at hiv
     ·rename_i he
      subst he
      simp only [Option.some.injEq,Prod.mk.injEq] at hiv
      obtain ⟨rfl,rfl⟩:=hiv
      obtain ⟨⟨k1,k2⟩,k3⟩:=hx.2 hg.symm (by rw [hbody];rfl)
      rw [hbody] at k2 k3 hB
      simp only [Body.len,Body.esz] at k2 k3
      rcases k3 with ⟨hn,_⟩ | ⟨hn,oo,hv,o1,o2⟩
      ·rw [hB.1 hn] at k2;simp at k2;omega
      ·obtain ⟨cs,T',c1,c2,c3,c4,c5⟩:=hB.2 hn
       refine ⟨_,by simp [execOp,ho,hv,h2.1,indexAt_run hti (p:=⟨(κ b).blk,oo,none⟩) rfl hc.1 hc.2];rfl,⟨hx.1.1,rfl⟩,fun _ _=>?_⟩
       rw [hbody]
       refine ⟨by simp only [Body.len];omega,hn,?_⟩
       rw [o2 (by omega)]
       simp only [Body.esz,Nat.add_mul]
       congr 3
       omega
     ·cases hiv
    ·rename_i e xs hbody
     split at hiv
     ·rename_i he
      subst he
      simp only [Option.some.injEq,Prod.mk.injEq] at hiv
      obtain ⟨rfl,rfl⟩:=hiv
      obtain ⟨⟨k1,k2⟩,k3⟩:=hx.2 hg.symm (by rw [hbody];rfl)
      rw [hbody] at k2 k3 hB
      simp only [Body.len,Body.esz] at k2 k3
      have hlen:((xs.take hi).drop lo).length=hi - lo:=by simp;omega
      obtain ⟨r,r1,r2⟩:=per ((xs.take hi).drop lo) (sub_of_slice hB k1 k2 k3) (by rw [hlen];exact hc)
      refine ⟨r,r1,?_⟩
      have e1:nth e ((xs.take hi).drop lo) n=nth e xs ((lo:Int)+n):=by
       rw [nth_eq hc.1 (by rw [hlen];exact hc.2),nth_eq (by omega) (by omega)]
       have:((lo:Int)+n).toNat=lo+n.toNat:=by omega
       simp [this]
      rw [e1] at r2
      exact r2
     ·cases hiv
    ·cases hiv
   ·cases hiv
  ·simp only [Rd.run_ret,Option.some.injEq,Prod.mk.injEq] at hiv
   obtain ⟨rfl,rfl⟩:=hiv
   exact hc.elim
  ·cases hiv
 ·rename_i m e0 k n ht hi
  split at h
  ·rename_i m' e' xs hxe
   split at h
   ·rename_i he
    obtain ⟨rfl,rfl⟩:=he
    simp only [okRes,Rd.run_ret,Option.some.injEq] at h
    subst h
    refine OpOk.pure (by rw [ho];intro c hc;cases hc) hdst fun a w κ F hr hob hc=>?_
    have hx:RA C.P s.blk κ F w (use (opAV C.ft s.slot x)).2 (a.eval x):=use_op hr x rfl hob.1
    rw [hxe] at hx
    have h2:=int?_ok (use_op hr i rfl hob.2) hi
    obtain ⟨j,hj,hje,_⟩:=(hT.is ht (by simp)).arr
    obtain ⟨p,ds,hv,hh,hrc⟩:=hx
    obtain ⟨c1,c2,c3,rfl,e2,e3⟩:=RC_arr_at hrc (i:=n.toNat) (by omega)
    refine ⟨.pointer (some ⟨p.block,p.off+n.toNat*e'.size,none⟩),?_,⟨p.block,p.off+n.toNat*e'.size,none⟩,c2,rfl,⟨hh.1,rfl,fun q hq=>?_⟩,e3⟩
    ·simp [execOp,ho,Instr.indexAt,hv,h2.1,asIntOf,run_underlying' hj,hc.1,hc.2,hje.size,add_addr' hh.2.1,Instr.sureAddr]
    ·have:=hh.2.2 (c1.length+q) (by simp;omega)
     rw [show p.off+(c1.length+q)=p.off+c1.length+q from by omega] at this
     show w.cell? ⟨p.block,p.off+n.toNat*e'.size+q,none⟩=_
     rw [←e2]
     simpa [List.getElem_append_right,List.getElem_append_left,hq] using this
   ·cases h
  ·rename_i b g off hxe
   simp only [Rd.run_get,Rd.run_ret] at h
   split at h
   ·rename_i hz
    simp only [Bool.and_eq_true,decide_eq_true_eq] at hz
    simp only [Option.some.injEq] at h
    subst h
    refine OpOk.pure (by rw [ho];intro c hc;cases hc) hdst fun a w κ F hr hob hc=>?_
    have h1:RA C.P s.blk κ F w (use (opAV C.ft s.slot x)).2 (a.eval x):=use_op hr x rfl hob.1
    rw [hxe] at h1
    have h2:=int?_ok (use_op hr i rfl hob.2) hi
    have h3:=h1.2 hz.1.symm hz.2
    obtain ⟨j,hj,hje,_⟩:=(hT.is ht (by simp)).arr
    exact ⟨_,by simp [execOp,ho,Instr.indexAt,h3,h2.1,asIntOf,run_underlying' hj,hc.1,hc.2,hje.size,add_addr' (p:=⟨(κ b).blk,off,none⟩) rfl,Instr.sureAddr],⟨h1.1.1,rfl⟩,fun _ _=>rfl⟩
   ·cases h
  ·cases h
 ·cases h
theorem boundV_ok {a:Act} {w:World} {κ:Nat→KB} {F:Nat→Prop} (hr:RelK C s a w κ F) {x:Option Operand} {p:Prop} {n:Option Int} (h:boundV (opAV C.ft s.slot) x=some (p,n)) (hp:p) :
  (x=none∧n=none)∨∃ y k m,x=some y∧n=some m∧a.eval y=.int k m:=by
 cases x with
 | none=>simp only [boundV,Option.some.injEq,Prod.mk.injEq] at h;exact .inl ⟨rfl,h.2.symm⟩
 | some y=>
  simp only [boundV] at h
  split at h
  ·rename_i q k m hu
   simp only [Option.some.injEq,Prod.mk.injEq] at h
   obtain ⟨rfl,rfl⟩:=h
   exact .inr ⟨y,k,m,rfl,rfl,(RV_int.1 (use_op hr y hu hp)).1⟩
  ·cases h
theorem bounds_run {P:Program} {w:World} {isS:Bool} {len cap:Nat} {lo hi:Option Value} {l h:Option Int} (hl:(lo=none∧l=none)∨∃ k m,lo=some (.int k m)∧l=some m) (hh:(hi=none∧h=none)∨∃ k m,hi=some (.int k m)∧h=some m)
  (h1:0≤loB l) (h2:loB l≤hiB len h) (h3:hiB len h≤(cap:Int)) (_h4:len≤cap):(Instr.sliceBounds isS len cap lo hi none).run P w=.ok ((loB l).toNat,(hiB len h).toNat,cap) w:=by
 rcases hl with ⟨rfl,rfl⟩ | ⟨k,m,rfl,rfl⟩<;>rcases hh with ⟨rfl,rfl⟩ | ⟨k',m',rfl,rfl⟩<;>simp only [loB,hiB] at h1 h2 h3 ⊢
 ·simp [Instr.sliceBounds]
 ·have:0≤m'∧m'≤(cap:Int):=by omega
  simp [Instr.sliceBounds,Instr.sliceBound,asIntOf,this]
 ·have:0≤m∧m≤(len:Int):=by omega
  simp [Instr.sliceBounds,Instr.sliceBound,asIntOf,this]
 ·have e1:0≤m'∧m'≤(cap:Int):=by omega
  have e2:0≤m∧m≤m':=by omega
  have e3:max m' 0=m':=by omega
  simp [Instr.sliceBounds,Instr.sliceBound,asIntOf,e1,e2,e3]
theorem subLim_le {l h:Option Int} {n m:Nat} (hnm:n≤m):subLim l h n m≤m:=by
 unfold subLim
 split
 ·exact Nat.le_refl _
 ·exact hnm
theorem ok_slice (hT:TabOk C.P T) {ty:TypeId} {x:Operand} {lo hi:Option Operand} (hdst:∀ i,o.dst=some i→i<C.nt) (ho:o.op=.slice ty x lo hi none) (h:(opV0 C.ft T Φ (opAV C.ft s.slot) o).run s.blk=some res):OpOk C o s res:=by
 simp only [opV0,ho,Option.isSome_none,Bool.false_eq_true,if_false,sliceOpV] at h
 split at h
 ·rename_i ol l oh hh' hlo hhi
  have hd:∀ c,o.op≠.defer c:=by rw [ho];intro c hc;cases hc
  have bnd:∀ (a:Act) (w:World) κ F,RelK C s a w κ F→ol→oh→((lo.map a.eval=none∧l=none)∨∃ k m,lo.map a.eval=some (.int k m)∧l=some m)∧((hi.map a.eval=none∧hh'=none)∨∃ k m,hi.map a.eval=some (.int k m)∧hh'=some m):=by
   intro a w κ F hr hol hoh
   constructor
   ·rcases boundV_ok hr hlo hol with ⟨rfl,rfl⟩ | ⟨y,k,m,rfl,rfl,e⟩
    ·exact .inl ⟨rfl,rfl⟩
    ·exact .inr ⟨k,m,by simp [e],rfl⟩
   ·rcases boundV_ok hr hhi hoh with ⟨rfl,rfl⟩ | ⟨y,k,m,rfl,rfl,e⟩
    ·exact .inl ⟨rfl,rfl⟩
    ·exact .inr ⟨k,m,by simp [e],rfl⟩
  split at h
  ·rename_i e0 ht
   have hti:=hT.is ht (by simp)
   obtain ⟨j,hj,hj2,hj3⟩:=hti.sl
   simp only [Rd.run_bindO,Option.bind_eq_some_iff] at h
   obtain ⟨⟨c,v⟩,hsv,h⟩:=h
   simp only [okRes,Rd.run_ret,Option.some.injEq] at h
   subst h
   have runs:∀ (a:Act) (w:World) κ F,RelK C s a w κ F→ol→oh→∀ (q:Option Addr) (n cap:Nat),a.eval x=.slice q n cap→n≤cap→0≤loB l∧loB l≤hiB n hh'∧hiB n hh'≤(cap:Int)→
     (execOp a.eval o).run C.P w=.ok (.value (.slice (if cap=(loB l).toNat then q else q.map (·.add ((loB l).toNat*e0.size))) ((hiB n hh').toNat - (loB l).toNat) (cap - (loB l).toNat))) w:=by
    intro a w κ F hr hol hoh q n cap hv hn hc
    obtain ⟨b1,b2⟩:=bnd a w κ F hr hol hoh
    have:=bounds_run (P:=C.P) (w:=w) (isS:=true) b1 b2 hc.1 hc.2.1 hc.2.2 hn
    simp [execOp,ho,hv,Instr.sliceAt,Instr.slice,run_underlying' hj,this,hj2.size]
   unfold sliceV at hsv
   split at hsv
   ·rename_i e xs hxe
    simp only [Rd.run_ret] at hsv
    split at hsv
    ·rename_i he
     subst he
     simp only [Option.some.injEq,Prod.mk.injEq] at hsv
     obtain ⟨rfl,rfl⟩:=hsv
     refine OpOk.pure hd hdst fun a w κ F hr hob hc=>?_
     have hx:RA C.P s.blk κ F w (use (opAV C.ft s.slot x)).2 (a.eval x):=use_op hr x rfl hob.1
     rw [hxe] at hx
     obtain ⟨_,a',cap,e1,m1,m2,m3,m4⟩:=(RV_leaf rfl).1 hx
     have e1:=(List.cons.inj e1).1
     refine ⟨_,runs a w κ F hr hob.2.1 hob.2.2 a' xs.length cap e1 m1 ⟨hc.1,hc.2.1,by have:=hc.2.2;omega⟩,(RV_leaf rfl).2 ⟨rfl,?_⟩⟩
     have hlen:((xs.take (hiB xs.length hh').toNat).drop (loB l).toNat).length=(hiB xs.length hh').toNat - (loB l).toNat:=by
      simp
      omega
     refine ⟨_,_,by rw [hlen],by rw [hlen];omega,by omega,?_,fun p hp hc0=>?_⟩
     ·intro hn
      split at hn
      ·have:=m3 hn;omega
      ·cases a' with
       | none=>have:=m3 rfl;omega
       | some q=>cases hn
     ·cases a' with
      | none=>split at hp<;>cases hp
      | some q=>
       obtain ⟨n1,n2,n3⟩:=m4 q rfl (by omega)
       have hq:∃ d,p=⟨q.block,q.off+d,none⟩∧(d=(loB l).toNat*e.size∨cap=(loB l).toNat):=by
        split at hp
        ·rename_i hcap
         have hp:=Option.some.inj hp
         subst hp
         exact ⟨0,by cases q;simp_all,.inr hcap⟩
        ·simp only [Option.map_some,Option.some.injEq] at hp
         rw [add_addr' n2] at hp
         exact ⟨_,hp.symm,.inl rfl⟩
       obtain ⟨d,rfl,hd'⟩:=hq
       refine ⟨n1,rfl,fun i hi=>?_⟩
       rw [hlen] at hi
       obtain ⟨ds,d1,d2⟩:=n3 ((loB l).toNat+i) (by omega)
       rcases hd' with rfl | hcap
       ·refine ⟨ds,⟨d1.1,rfl,fun k hk=>?_⟩,?_⟩
        ·have:=d1.2.2 k hk
         rw [Nat.add_mul] at this
         rw [show q.off+(loB l).toNat*e.size+i*e.size=q.off+((loB l).toNat*e.size+i*e.size) from by omega]
         exact this
        ·have e2:((xs.take (hiB xs.length hh').toNat).drop (loB l).toNat)[i]'(by rw [hlen];exact hi)=xs[(loB l).toNat+i]'(by omega):=by simp
         rw [e2];exact d2
       ·omega
    ·cases hsv
   ·rename_i hxe
    simp only [Rd.run_ret,Option.some.injEq,Prod.mk.injEq] at hsv
    obtain ⟨rfl,rfl⟩:=hsv
    refine OpOk.pure hd hdst fun a w κ F hr hob hc=>?_
    have hx:RA C.P s.blk κ F w (use (opAV C.ft s.slot x)).2 (a.eval x):=use_op hr x rfl hob.1
    rw [hxe] at hx
    simp only [RA] at hx
    have hc':0≤loB l∧loB l≤hiB 0 hh'∧hiB 0 hh'≤((0:Nat):Int):=hc
    have hrun:=runs a w κ F hr hob.2.1 hob.2.2 none 0 0 hx (Nat.le_refl _) hc'
    have h0:(hiB 0 hh').toNat=0:=by omega
    rw [h0] at hrun
    refine ⟨_,hrun,?_⟩
    simp only [RA]
    split<;>simp
   ·rename_i b g hxe
    simp only [Rd.run_get,Rd.run_ret] at hsv
    split at hsv
    ·rename_i hz
     simp only [Bool.and_eq_true,decide_eq_true_eq,beq_iff_eq] at hz
     obtain ⟨⟨hg,harr⟩,hesz⟩:=hz
     simp only [Option.some.injEq,Prod.mk.injEq] at hsv
     obtain ⟨rfl,rfl⟩:=hsv
     refine OpOk.pure hd hdst fun a w κ F hr hob hc=>?_
     have hx:RA C.P s.blk κ F w (use (opAV C.ft s.slot x)).2 (a.eval x):=use_op hr x rfl hob.1
     rw [hxe] at hx
     have hv:=hx.2 hg.symm harr
     obtain ⟨n1,n2⟩:=arr_nil hr harr
     cases hn:(κ b).isNil with
     | true=>
      have h0:=n1 hn
      simp only [KB.slice,hn,if_true] at hv
      rw [h0] at hc
      have hrun:=runs a w κ F hr hob.2.1 hob.2.2 none 0 0 hv (Nat.le_refl _) hc
      refine ⟨_,hrun,⟨hx.1.1,by split<;>rfl⟩,fun _ _=>⟨by rw [h0];omega,.inl ⟨hn,?_⟩⟩⟩
      have h1:(hiB 0 hh').toNat=0:=by omega
      rw [h1]
      split<;>simp
     | false=>
      have hcap:=arr_cap hr harr hn
      simp only [KB.slice,hn,Bool.false_eq_true,if_false] at hv
      have hrun:=runs a w κ F hr hob.2.1 hob.2.2 _ _ _ hv hcap ⟨hc.1,hc.2.1,by have:=hc.2.2;omega⟩
      refine ⟨_,hrun,⟨hx.1.1,by split<;>rfl⟩,fun _ _=>⟨by omega,.inr ⟨hn,?_⟩⟩⟩
      rw [←hesz]
      by_cases hcl:(κ b).cap=(loB l).toNat
      ·rw [if_pos hcl]
       exact ⟨_,rfl,by omega,fun h=>by omega⟩
      ·rw [if_neg hcl]
       simp only [Option.map_some,add_addr]
       exact ⟨_,rfl,by omega,fun h=>rfl⟩
    ·cases hsv
   ·rename_i b g l0 h0 hxe
    simp only [Rd.run_get,Rd.run_ret] at hsv
    split at hsv
    ·rename_i hz
     simp only [Bool.and_eq_true,decide_eq_true_eq,beq_iff_eq] at hz
     obtain ⟨⟨hg,harr⟩,hesz⟩:=hz
     simp only [Option.some.injEq,Prod.mk.injEq] at hsv
     obtain ⟨rfl,rfl⟩:=hsv
     refine OpOk.pure hd hdst fun a w κ F hr hob hc=>?_
     have hx:RA C.P s.blk κ F w (use (opAV C.ft s.slot x)).2 (a.eval x):=use_op hr x rfl hob.1
     rw [hxe] at hx
     obtain ⟨⟨k1,k2⟩,k3⟩:=hx.2 hg.symm harr
     obtain ⟨n1,n2⟩:=arr_nil hr harr
     have hlim:subLim l hh' (h0 - l0) ((s.blk b).body.len - l0)≤(s.blk b).body.len - l0:=subLim_le (by omega)
     revert hc hlim
     generalize subLim l hh' (h0 - l0) ((s.blk b).body.len - l0)=lim
     intro hc hlim
     rcases k3 with ⟨hn,hv⟩ | ⟨hn,oo,hv,o1,o2⟩
     ·have hl0:=n1 hn
      have e0:h0 - l0=0:=by omega
      have elim:lim=0:=by omega
      rw [e0,elim] at hc
      have hrun:=runs a w κ F hr hob.2.1 hob.2.2 none 0 0 hv (Nat.le_refl _) hc
      refine ⟨_,hrun,⟨hx.1.1,by split<;>rfl⟩,fun _ _=>⟨by rw [e0];omega,.inl ⟨hn,?_⟩⟩⟩
      have h1:(hiB 0 hh').toNat=0:=by omega
      rw [h1]
      split<;>simp
     ·have hcap:=arr_cap hr harr hn
      have hrun:=runs a w κ F hr hob.2.1 hob.2.2 _ _ _ hv (by omega) ⟨hc.1,hc.2.1,by have:=hc.2.2;omega⟩
      refine ⟨_,hrun,⟨hx.1.1,by split<;>rfl⟩,fun _ _=>⟨by omega,.inr ⟨hn,?_⟩⟩⟩
      rw [←hesz]
      rw [←hesz] at hrun
      have e1:(hiB (h0 - l0) hh').toNat - (loB l).toNat=l0+(hiB (h0 - l0) hh').toNat - (l0+(loB l).toNat):=by omega
      have e2:(κ b).cap - l0 - (loB l).toNat=(κ b).cap - (l0+(loB l).toNat):=by omega
      rw [e1,e2]
      have e3:(l0+(loB l).toNat)*(s.blk b).body.esz=l0*(s.blk b).body.esz+(loB l).toNat*(s.blk b).body.esz:=Nat.add_mul _ _ _
      by_cases hcl:(κ b).cap - l0=(loB l).toNat
      ·rw [if_pos hcl]
       exact ⟨_,rfl,by omega,fun h=>by omega⟩
      ·rw [if_neg hcl]
       simp only [Option.map_some,add_addr]
       exact ⟨_,rfl,by omega,fun h=>by have:=o2 (by omega);omega⟩
    ·cases hsv
   ·cases hsv
  ·rename_i ht
   have hti:=(hT.is ht (by simp)).str
   split at h
   ·rename_i c v hsv
    simp only [okRes,Rd.run_ret,Option.some.injEq] at h
    subst h
    unfold sliceSV at hsv
    split at hsv
    ·rename_i xs hxe
     simp only [Option.some.injEq,Prod.mk.injEq] at hsv
     obtain ⟨rfl,rfl⟩:=hsv
     refine OpOk.pure hd hdst fun a w κ F hr hob hc=>?_
     have hx:RA C.P s.blk κ F w (use (opAV C.ft s.slot x)).2 (a.eval x):=use_op hr x rfl hob.1
     rw [hxe] at hx
     obtain ⟨hv,hlt⟩:=RV_str.1 hx
     obtain ⟨b1,b2⟩:=bnd a w κ F hr hob.2.1 hob.2.2
     have hs:ByteArray.size ⟨xs.toArray⟩=xs.length:=by show xs.toArray.size=_;simp
     have:=bounds_run (P:=C.P) (w:=w) (isS:=false) (len:=xs.length) (cap:=xs.length) b1 b2 hc.1 hc.2.1 hc.2.2 (Nat.le_refl _)
     refine ⟨.string ⟨((xs.take (hiB xs.length hh').toNat).drop (loB l).toNat).toArray⟩,?_,RV_str.2 ⟨rfl,by simp;omega⟩⟩
     simp only [execOp,ho,hv,Instr.sliceAt,Instr.slice,Sem.run_bind,run_underlying' hti,Result.andThen_ok,Option.map_none,Option.isSome_none,Bool.false_eq_true,if_false,hs,this,Sem.run_pure]
     have he:ByteArray.extract ⟨xs.toArray⟩ (loB l).toNat (hiB xs.length hh').toNat=⟨((xs.take (hiB xs.length hh').toNat).drop (loB l).toNat).toArray⟩:=by
      apply ByteArray.ext
      rw [ByteArray.data_extract]
      apply Array.toList_inj.1
      simp [List.extract_eq_take_drop,List.drop_take]
     rw [he]
    ·cases hsv
   ·cases h
  ·cases h
 ·cases h
end
end Go.Fer
namespace Go.Fer
open Go.RowKit
def RowL (P:Program) (e:Ty) (F:Nat→Prop) (w:World) (all:List Value) (xs:List e.Den):Prop:=
 all.length=xs.length*e.size∧∀ i (h:i<xs.length),RC P e F w ((all.drop (i*e.size)).take e.size) xs[i]
theorem RowL.append {P:Program} {e:Ty} {F:Nat→Prop} {w:World} {l m:List Value} {xs ys:List e.Den} (h:RowL P e F w l xs) (k:RowL P e F w m ys):RowL P e F w (l++m) (xs++ys):=by
 refine ⟨by simp [h.1,k.1,Nat.add_mul],fun i hi=>?_⟩
 by_cases hx:i<xs.length
 ·have e1:(xs++ys)[i]=xs[i]:=List.getElem_append_left hx
  rw [e1]
  have hle:(i+1)*e.size≤xs.length*e.size:=Nat.mul_le_mul_right _ (by omega)
  rw [Nat.add_mul,Nat.one_mul] at hle
  have:((l++m).drop (i*e.size)).take e.size=(l.drop (i*e.size)).take e.size:=by
   rw [List.drop_append_of_le_length (by rw [h.1];omega),List.take_append_of_le_length (by simp [h.1];omega)]
  rw [this]
  exact h.2 i hx
 ·have hi':i - xs.length<ys.length:=by simp at hi;omega
  have e1:(xs++ys)[i]=ys[i - xs.length]:=List.getElem_append_right (by omega)
  rw [e1]
  have hm:i*e.size=xs.length*e.size+(i - xs.length)*e.size:=by rw [←Nat.add_mul];congr 1;omega
  have:(l++m).drop (i*e.size)=m.drop ((i - xs.length)*e.size):=by
   rw [hm,←h.1,List.drop_append,List.drop_of_length_le (by omega)]
   simp
  rw [this]
  exact k.2 _ hi'
theorem RowL.rowIs {P:Program} {e:Ty} {F:Nat→Prop} {w:World} {all pre post:List Value} {cs:Array Value} {xs:List e.Den} (h:RowL P e F w all xs) (hc:cs.toList=pre++(all++post)):RowIs P e F w cs pre.length xs:=by
 intro i hi
 have hle:(i+1)*e.size≤xs.length*e.size:=Nat.mul_le_mul_right _ (by omega)
 rw [Nat.add_mul,Nat.one_mul] at hle
 refine ⟨_,fun j hj=>?_,h.2 i hi⟩
 have hj':j<e.size:=by simp at hj;omega
 rw [←Array.getElem?_toList,hc,List.getElem?_append_right (by omega),List.getElem?_append_left (by rw [h.1];omega)]
 simp only [List.getElem_take,List.getElem_drop]
 rw [show pre.length+i*e.size+j - pre.length=i*e.size+j from by omega]
 exact List.getElem?_eq_getElem _
theorem rowL_of_reads {P:Program} {e:Ty} {F:Nat→Prop} {w:World}:∀ {xs:List e.Den} {p:Addr},(0<xs.length→p.spot=none)→(∀ i (h:i<xs.length),∃ ds,Reads w ⟨p.block,p.off+i*e.size,none⟩ ds∧RC P e F w ds xs[i])→
  ∃ all,RowL P e F w all xs∧Reads w p all
 | [],p,hp,_=>⟨[],⟨by simp,fun i hi=>by simp at hi⟩,fun h=>by simp at h,fun j hj=>by simp at hj⟩
 | x::xs,p,hp,h=>by
  obtain ⟨ds,d1,d2⟩:=h 0 (by simp)
  have hdl:=RC_len e d2
  obtain ⟨all,a1,a2⟩:=rowL_of_reads (P:=P) (F:=F) (w:=w) (xs:=xs) (p:=⟨p.block,p.off+e.size,none⟩) (fun _=>rfl) (fun i hi=>by
   obtain ⟨ds',k1,k2⟩:=h (i+1) (by simpa using hi)
   refine ⟨ds',?_,by simpa using k2⟩
   rw [show (i+1)*e.size=e.size+i*e.size from by rw [Nat.add_mul];omega] at k1
   rw [←Nat.add_assoc] at k1
   exact k1)
  refine ⟨ds++all,?_,fun _=>hp (by simp),fun j hj=>?_⟩
  ·have h1:RowL P e F w ds [x]:=⟨by simp [hdl],fun i hi=>by
    have:i=0:=by simpa using hi
    subst this
    simpa [←hdl] using d2⟩
   exact h1.append a1
  ·rcases Nat.lt_or_ge j ds.length with h1 | h1
   ·rw [List.getElem_append_left h1]
    have:=d1.2 j h1
    simpa using this
   ·rw [List.getElem_append_right h1]
    have:=a2.2 (j - ds.length) (by simp at hj;omega)
    rw [←this]
    congr 2
    simp only
    omega
section
variable {C:Ctx} {T:Nat→Ty} {Φ:Nat→Option FC} {o:Oper} {s:AState} {res:OpRes}
theorem elems_ok {a:Act} {w:World} {κ:Nat→KB} {F:Nat→Prop} (hr:RelK C s a w κ F) {e:Ty} {av:AV} {v:Value} {ys:List e.Den} {l:List Nat} (h:(asDen (.slice e) av).run s.blk=some (ys,l)) (hv:RA C.P s.blk κ F w av v) :
  ∃ q cap,v=.slice q ys.length cap∧((q=none∧ys=[]∧cap=0)∨∃ p all,q=some p∧RowL C.P e F w all ys∧Reads w p all):=by
 have per:∀ {xs:List e.Den},RC C.P (.slice e) F w [v] xs→∃ q cap,v=.slice q xs.length cap∧((q=none∧xs=[]∧cap=0)∨∃ p all,q=some p∧RowL C.P e F w all xs∧Reads w p all):=by
  intro xs hx
  obtain ⟨q,cap,e1,m1,m2,m3,m4⟩:=hx
  refine ⟨q,cap,(List.cons.inj e1).1,?_⟩
  cases q with
  | none=>
   have:=m3 rfl
   exact .inl ⟨rfl,List.eq_nil_of_length_eq_zero (by omega),this⟩
  | some p=>
   obtain ⟨all,a1,a2⟩:=rowL_of_reads (P:=C.P) (F:=F) (w:=w) (xs:=xs) (p:=p) (fun h=>(m4 p rfl (by omega)).2.1) (fun i hi=>let ⟨ds,d1,d2⟩:=(m4 p rfl (by omega)).2.2 i hi;⟨ds,d1.reads,d2⟩)
   exact .inr ⟨p,all,rfl,a1,a2⟩
 cases av with
 | val t' y=>
  simp only [asDen,Rd.run_ret,Option.map_eq_some_iff,Prod.mk.injEq] at h
  obtain ⟨z,hz,rfl,_⟩:=h
  exact per (((RV_leaf rfl).1 (cast_RV hz hv)).2)
 | clp e' y=>
  simp only [asDen,asTop,Ty.isLeaf,if_true,asLeaf,Rd.run_ret,Option.map_eq_some_iff,Prod.mk.injEq] at h
  obtain ⟨z,hz,rfl,_⟩:=h
  exact per (((RV_leaf rfl).1 (cast_RV hz hv.1)).2)
 | nils=>
  simp only [asDen,asTop,Ty.isLeaf,if_true,asLeaf,Rd.run_ret,Option.some.injEq,Prod.mk.injEq] at h
  obtain ⟨rfl,_⟩:=h
  simp only [RA] at hv
  exact ⟨none,0,hv,.inl ⟨rfl,rfl,rfl⟩⟩
 | own b g=>
  simp only [asDen,asTop,Ty.isLeaf,if_true,asLeaf,Rd.run_get,Rd.run_ret] at h
  split at h
  ·rename_i hg
   have hB:=hr.blks b
   unfold HB at hB
   split at h
   ·rename_i e' xs hbody
    simp only [Option.map_eq_some_iff,Prod.mk.injEq] at h
    obtain ⟨z,hz,rfl,_⟩:=h
    obtain ⟨ee,rfl⟩:=castDen_some hz
    cases ee
    have hvv:=hv.2 hg.symm (by rw [hbody];rfl)
    rw [hbody] at hvv hB
    simp only [Body.len] at hvv
    cases hn:(κ b).isNil with
    | true=>
     have hxs:=hB.1 hn
     subst hxs
     simp only [KB.slice,hn,if_true] at hvv
     exact ⟨none,0,hvv,.inl ⟨rfl,rfl,rfl⟩⟩
    | false=>
     obtain ⟨cs,T',c1,c2,c3,c4,c5⟩:=hB.2 hn
     simp only [KB.slice,hn,Bool.false_eq_true,if_false] at hvv
     obtain ⟨all,a1,a2⟩:=rowL_of_reads (P:=C.P) (F:=F) (w:=w) (xs:=xs) (p:=⟨(κ b).blk,(κ b).off,none⟩) (fun _=>rfl) (fun i hi=>by
      obtain ⟨ds,d1,d2⟩:=c5 i hi
      exact ⟨ds,⟨fun _=>rfl,fun j hj=>by rw [cell_of c1];exact d1 j hj⟩,d2⟩)
     exact ⟨_,_,hvv,.inr ⟨_,all,rfl,a1,a2⟩⟩
   ·rename_i e' xs hbody
    simp only [Option.map_eq_some_iff,Prod.mk.injEq] at h
    obtain ⟨z,hz,rfl,_⟩:=h
    obtain ⟨ee,rfl⟩:=castDen_some hz
    cases ee
    have hvv:=hv.2 hg.symm (by rw [hbody];rfl)
    rw [hbody] at hvv hB
    simp only [Body.len] at hvv
    simp only [HBody] at hB
    rw [←hvv] at hB
    exact per hB
   ·cases h
  ·cases h
 | sub b g lo hi=>
  simp only [asDen,asTop,Ty.isLeaf,if_true,asLeaf,Rd.run_get,Rd.run_ret] at h
  split at h
  ·rename_i hg
   have hB:=hr.blks b
   unfold HB at hB
   split at h
   ·rename_i e' xs hbody
    simp only [Option.map_eq_some_iff,Prod.mk.injEq] at h
    obtain ⟨z,hz,rfl,_⟩:=h
    obtain ⟨ee,rfl⟩:=castDen_some hz
    cases ee
    obtain ⟨⟨k1,k2⟩,k3⟩:=hv.2 hg.symm (by rw [hbody];rfl)
    rw [hbody] at k2 k3 hB
    simp only [Body.len,Body.esz] at k2 k3
    have hlen:((xs.take hi).drop lo).length=hi - lo:=by simp;omega
    rcases k3 with ⟨hn,hvv⟩ | ⟨hn,oo,hvv,o1,o2⟩
    ·have hxs:=hB.1 hn
     subst hxs
     exact ⟨none,0,by simpa using hvv,.inl ⟨rfl,by simp,rfl⟩⟩
    ·obtain ⟨cs,T',c1,c2,c3,c4,c5⟩:=hB.2 hn
     obtain ⟨all,a1,a2⟩:=rowL_of_reads (P:=C.P) (F:=F) (w:=w) (xs:=(xs.take hi).drop lo) (p:=⟨(κ b).blk,oo,none⟩) (fun _=>rfl) (fun i hi'=>by
      rw [hlen] at hi'
      obtain ⟨ds,d1,d2⟩:=c5 (lo+i) (by omega)
      refine ⟨ds,⟨fun _=>rfl,fun j hj=>?_⟩,?_⟩
      ·rw [cell_of c1,←d1 j hj]
       simp only
       rw [o2 (by omega)]
       congr 1
       simp only [Nat.add_mul]
       omega
      ·have e2:((xs.take hi).drop lo)[i]'(by rw [hlen];exact hi')=xs[lo+i]'(by omega):=by simp
       rw [e2];exact d2)
     exact ⟨_,_,by rw [hlen];exact hvv,.inr ⟨_,all,rfl,a1,a2⟩⟩
   ·rename_i e' xs hbody
    simp only [Option.map_eq_some_iff,Prod.mk.injEq] at h
    obtain ⟨z,hz,rfl,_⟩:=h
    obtain ⟨ee,rfl⟩:=castDen_some hz
    cases ee
    obtain ⟨⟨k1,k2⟩,k3⟩:=hv.2 hg.symm (by rw [hbody];rfl)
    rw [hbody] at k2 k3 hB
    exact per (sub_of_slice hB k1 k2 k3)
   ·cases h
  ·cases h
 | pp t' y=>simp [asDen,asTop,Ty.isLeaf,asLeaf,Rd.none] at h
 | raw u=>simp [asDen,asTop,Ty.isLeaf,asLeaf,rawDen] at h
 | _=>simp [asDen,asTop,Ty.isLeaf,asLeaf,Rd.none] at h
theorem firstCells_run {P:Program} {w:World} {e:Ty} {q:Option Addr} {n cap:Nat} {xs:List e.Den} {F:Nat→Prop} (hn:n=xs.length) (h:(q=none∧xs=[]∧cap=0)∨∃ p all,q=some p∧RowL P e F w all xs∧Reads w p all) :
  ∃ all,(Builtin.firstCells e.size n (.slice q n cap)).run P w=.ok all.toArray w∧RowL P e F w all xs:=by
 subst hn
 rcases h with ⟨rfl,rfl,rfl⟩ | ⟨p,all,rfl,a1,a2⟩
 ·exact ⟨[],by simp [Builtin.firstCells],by simp [RowL]⟩
 ·refine ⟨all,?_,a1⟩
  simp only [Builtin.firstCells]
  rw [←a1.1]
  exact reads_run a2
theorem growBy_le (n:Nat):∀ (k c:Nat),Builtin.growBy n k c≤max c (2*n+768):=by
 intro k
 induction k with
 | zero=>intro c;simp only [Builtin.growBy];omega
 | succ k ih=>
  intro c
  simp only [Builtin.growBy]
  split
  ·omega
  ·have:=ih (c+(c+768) / 4)
   omega
theorem nextcap_le {need cap:Nat} (h:cap<need):Builtin.nextslicecap need cap≤2*need+768:=by
 unfold Builtin.nextslicecap
 split
 ·omega
 ·split
  ·omega
  ·have:=growBy_le need 4 cap
   omega
theorem zeroCells_size {z:Array Value} {n k:Nat} (h:z.size=k):(Builtin.zeroCells z n).size=n*k:=by simp [Builtin.zeroCells,h]
structure Src (P:Program) (e:Ty) (F:Nat→Prop) (w:World) (ty':TypeId) (v:Value) (ys:List e.Den):Prop where
 und:(∃ j,P.underlying ty'=some (.slice j))∨P.underlying ty'=some .string
 len:∀ w1,(Builtin.lenOf v).run P w1=.ok ys.length w1
 cells:∃ new:List Value,(∀ w1,w1=w∨w1=w.drew→(Builtin.firstCells e.size ys.length v).run P w1=.ok new.toArray w1)∧RowL P e F w new ys
theorem Src.slice {P:Program} {e:Ty} {F:Nat→Prop} {w:World} {ty':TypeId} {q':Option Addr} {cap':Nat} {v:Value} {ys:List e.Den} (hu:∃ j,P.underlying ty'=some (.slice j)) (hv:v=.slice q' ys.length cap')
  (hy:(q'=none∧ys=[]∧cap'=0)∨∃ p all,q'=some p∧RowL P e F w all ys∧Reads w p all):Src P e F w ty' v ys:=by
 subst hv
 refine ⟨.inl hu,fun w1=>rfl,?_⟩
 rcases hy with ⟨rfl,rfl,rfl⟩ | ⟨p,all,rfl,a1,a2⟩
 ·exact ⟨[],fun w1 _=>by simp [Builtin.firstCells],by simp [RowL]⟩
 ·refine ⟨all,fun w1 h1=>?_,a1⟩
  simp only [Builtin.firstCells]
  rw [←a1.1]
  rcases h1 with rfl | rfl
  ·exact reads_run a2
  ·exact reads_run (w:=w.drew) a2
theorem append_new {P:Program} {w:World} {e:Ty} {ty ty':TypeId} {F:Nat→Prop} (h:TyIs P (.slice e) ty) {q:Option Addr} {cap:Nat} {v:Value} {xs ys:List e.Den}
  (hx:(q=none∧xs=[]∧cap=0)∨∃ p all,q=some p∧RowL P e F w all xs∧Reads w p all) (hy:Src P e F w ty' v ys)
  (hc:cap<xs.length+ys.length) (hl:lenLe (xs.length+ys.length)) (rt:TypeId) :
  ∃ eid newCap cs,(Builtin.append_ #[ty,ty'] rt #[.slice q xs.length cap,v]).run P w=.ok (.slice (some ⟨w.heap.size,0,none⟩) (xs.length+ys.length) newCap) (w.drew.alloc (.cells cs eid))∧
   (newCap<2 ^ 63∧RowT P e eid)∧xs.length+ys.length≤newCap∧cs.size=newCap*e.size∧RowIs P e F w cs 0 (xs++ys):=by
 obtain ⟨eid,hj,hj2,hj3⟩:=h.sl
 obtain ⟨hund,hlenY,new,hn1,hn2⟩:=hy
 obtain ⟨i,z,i1,i2,i3,i4,i5,i6⟩:=infoOk_out hj2.info
 have hz:=(nthAV_zeros_len e (P:=P) i5).2
 have hdrew:∀ t:Nat,xs.length+ys.length≤xs.length+ys.length+t % (2 ^ 63 - (xs.length+ys.length))∧xs.length+ys.length+t % (2 ^ 63 - (xs.length+ys.length))<2 ^ 63:=by
  intro t
  unfold lenLe at hl
  have:t % (2 ^ 63 - (xs.length+ys.length))<2 ^ 63 - (xs.length+ys.length):=Nat.mod_lt _ (by omega)
  omega
 generalize hnc:xs.length+ys.length+(w.tape w.drawn (.appendCap (xs.length+ys.length) cap eid)) % (2 ^ 63 - (xs.length+ys.length))=newCap
 have hnc':=hdrew (w.tape w.drawn (.appendCap (xs.length+ys.length) cap eid))
 rw [hnc] at hnc'
 have hreads:∀ {p:Addr} {all:List Value},Reads w p all→Reads w.drew p all:=fun h=>h
 have hRow:∀ {all:List Value} {zs:List e.Den},RowL P e F w all zs→RowL P e F w.drew all zs:=fun h=>⟨h.1,fun i hi=>RC_mono e (F:=F) (F':=F) (w:=w) (w':=w.drew) (fun _ hr=>hr) ⟨Nat.le_refl _,fun _ _=>rfl⟩ (h.2 i hi)⟩
 have hx':(q=none∧xs=[]∧cap=0)∨∃ p all,q=some p∧RowL P e F w.drew all xs∧Reads w.drew p all:=hx.imp id fun ⟨p,all,a,b,c⟩=>⟨p,all,a,hRow b,hreads c⟩
 obtain ⟨old,o1,o2⟩:=firstCells_run (P:=P) (w:=w.drew) (cap:=cap) rfl hx'
 have n1:=hn1 w.drew (.inr rfl)
 have n2:=hRow hn2
 refine ⟨eid,newCap,old.toArray++new.toArray++Builtin.zeroCells z.cells (newCap - (xs.length+ys.length)),?_,⟨hnc'.2,hj2.rowT⟩,hnc'.1,?_,?_⟩
 ·have hb:=nextcap_le hc
  have hb2:Builtin.nextslicecap (xs.length+ys.length) cap*i.bytes≤281474976710656:=by
   unfold lenLe at hl
   calc Builtin.nextslicecap (xs.length+ys.length) cap*i.bytes≤(2*4294967296+768)*1024:=Nat.mul_le_mul (by omega) i3
    _≤281474976710656:=by decide
  have hmax:¬((xs.length+ys.length:Nat):Int) > IntKind.i64.max:=by
   unfold lenLe at hl
   have:IntKind.i64.max=9223372036854775807:=by decide
   omega
  have hb3:¬Builtin.nextslicecap (xs.length+ys.length) cap*i.bytes > 2 ^ 48:=by
   have:(2:Nat) ^ 48=281474976710656:=by decide
   omega
  have hcut:(Question.appendCap (xs.length+ys.length) cap eid).cut (w.tape w.drawn (.appendCap (xs.length+ys.length) cap eid))=newCap:=by
   rw [←hnc];rfl
  have hforce:(Question.appendCap (xs.length+ys.length) cap eid).forced=false:=rfl
  rcases hund with ⟨j',hj'⟩ | hj'
  ·simp only [Builtin.append_,List.getElem?_toArray,List.getElem?_cons_zero,List.getElem?_cons_succ,Sem.run_bind,run_underlying' hj,run_underlying' hj',Result.andThen_ok,run_sizeOf' i1,i2,Sem.run_pure,hlenY,Bool.false_eq_true,if_false,
    if_neg (show ¬xs.length+ys.length≤cap by omega),hmax,false_and,run_typeInfo' i1,hb3,run_choose,hforce,hcut,run_askRoom,Bool.not_false,if_true,World.drew_eq,o1,n1,run_zeroValue' i1 i4]
   simp [newRow]
  ·simp only [Builtin.append_,List.getElem?_toArray,List.getElem?_cons_zero,List.getElem?_cons_succ,Sem.run_bind,run_underlying' hj,run_underlying' hj',Result.andThen_ok,run_sizeOf' i1,i2,Sem.run_pure,hlenY,Bool.false_eq_true,if_false,
    if_neg (show ¬xs.length+ys.length≤cap by omega),hmax,false_and,run_typeInfo' i1,hb3,run_choose,hforce,hcut,run_askRoom,Bool.not_false,if_true,World.drew_eq,o1,n1,run_zeroValue' i1 i4]
   simp [newRow]
 ·have h1:=o2.1
  have h2:=n2.1
  simp only [Array.size_append,List.size_toArray,zeroCells_size hz,h1,h2]
  rw [←Nat.add_mul,←Nat.add_mul]
  congr 1
  omega
 ·have hrow:=o2.append n2
  have hrow':RowL P e F w (old++new) (xs++ys):=⟨hrow.1,fun i hi=>RC_mono e (F:=F) (F':=F) (w:=w.drew) (w':=w) (fun _ hr=>hr) ⟨Nat.le_refl _,fun _ _=>rfl⟩ (hrow.2 i hi)⟩
  exact hrow'.rowIs (pre:=[]) (post:=(Builtin.zeroCells z.cells (newCap - (xs.length+ys.length))).toList) (by simp)
end
end Go.Fer
namespace Go.Fer
open Go.RowKit
section
variable {C:Ctx} {T:Nat→Ty} {Φ:Nat→Option FC} {o:Oper} {s:AState} {res:OpRes}
theorem RelK.renew {a:Act} {w w':World} {κ:Nat→KB} {F:Nat→Prop} (h:RelK C s a w κ F) {b g:Nat} {e:Ty} {zs:List e.Den} {k:KB} (hg:(s.blk b).gen<g) (hnew:k.isNil=true∨k.blk=w.heap.size) (hsz:w.heap.size≤w'.heap.size)
  (hold:∀ r,r<w.heap.size→w'.heap[r]?=w.heap[r]?) (hlt:k.isNil=false→k.blk<w'.heap.size) (hc:Calm w w')
  (hbody:∀ H κ',HBody C.P H κ' F w' k (.arr e zs)):RelK C (s.setB b ⟨g,.arr e zs⟩) a w' (fun i=>if i=b then k else κ i) F:=by
 have hl:Later s.blk κ (fun i=>if i=b then (⟨g,.arr e zs⟩:ABlk) else s.blk i) (fun i=>if i=b then k else κ i):=later_setB hg fun b' hb'=>by simp [hb']
 have he:Ext F w w':=⟨hsz,fun r hr=>hold r (h.fsz r hr)⟩
 refine h.move (H':=fun i=>if i=b then (⟨g,.arr e zs⟩:ABlk) else s.blk i) hl (fun _ hr=>hr) (fun _ hr=>.inl hr) hsz (fun r hr _=>hold r hr) hc (fun _=>?_) ?_ ?_ (fun r hr=>Nat.lt_of_lt_of_le (h.fsz r hr) hsz) (an_setB (.inr ⟨rfl,rfl⟩) fun b' hb'=>by simp [hb'])
 ·intro i
  by_cases hi:i=b
  ·subst hi
   simp only [HB,if_true]
   exact hbody _ _
  ·exact HB.other (h.blks i) hl (fun _ hr=>hr) he (by simp [hi]) (by simp [hi]) fun ho=>hold _ (h.own i ho).1
 ·intro i hi
  by_cases hib:i=b
  ·subst hib
   simp only [if_true,Body.owned,Bool.not_eq_true'] at hi ⊢
   have hk:=hnew.resolve_left (by rw [hi];simp)
   refine ⟨hlt hi,fun hf=>?_,.inr (by omega)⟩
   have:=h.fsz _ hf;omega
  ·simp only [if_neg hib] at hi ⊢
   have:=h.own i hi
   exact ⟨by omega,this.2.1,.inl ⟨i,hi,rfl⟩⟩
 ·intro i j hi hj e'
  by_cases hib:i=b<;>by_cases hjb:j=b
  ·rw [hib,hjb]
  ·simp only [if_pos hib,if_neg hjb,Body.owned,Bool.not_eq_true'] at hi hj e'
   have hk:=hnew.resolve_left (by rw [hi];simp)
   have:=(h.own j hj).1
   omega
  ·simp only [if_neg hib,if_pos hjb,Body.owned,Bool.not_eq_true'] at hi hj e'
   have hk:=hnew.resolve_left (by rw [hj];simp)
   have:=(h.own i hi).1
   omega
  ·simp only [if_neg hib,if_neg hjb] at hi hj e'
   exact h.inj i j hi hj e'
theorem setB_setB (s:AState) (b:Nat) (x y:ABlk):(s.setB b x).setB b y=s.setB b y:=by
 unfold AState.setB
 congr 1
 funext i
 simp only
 split<;>rfl
theorem RelK.consume {a:Act} {w:World} {κ:Nat→KB} {F:Nat→Prop} (h:RelK C s a w κ F) {b:Nat} {e:Ty} {xs:List e.Den} (hb:(s.blk b).body=.arr e xs) {lo hi:Nat} (h1:lo≤hi) (h2:hi≤xs.length) {v:Value} (hs:IsSub (κ b) e.size lo hi v) :
  ∃ κ',RelK C (s.setB b ⟨(s.blk b).gen+1,.arr e ((xs.take hi).drop lo)⟩) a w κ' F∧v=(κ' b).slice ((xs.take hi).drop lo).length:=by
 have hlen:((xs.take hi).drop lo).length=hi - lo:=by simp;omega
 have hl2:∀ κ':Nat→KB,(∀ b',b'≠b→κ' b'=κ b')→Later s.blk κ (fun i=>if i=b then (⟨(s.blk b).gen+1,.arr e ((xs.take hi).drop lo)⟩:ABlk) else s.blk i) κ':=
  fun κ' hκ=>later_setB (Nat.lt_succ_self _) hκ
 have hB:=h.blks b
 unfold HB at hB
 rw [hb] at hB
 rcases hs with ⟨hn,rfl⟩ | ⟨hn,o,rfl,o1,o2⟩
 ·have hxs:=hB.1 hn
  subst hxs
  refine ⟨κ,?_,by simp [KB.slice,hn]⟩
  refine h.move (H':=fun i=>if i=b then (⟨(s.blk b).gen+1,.arr e ((([]:List e.Den).take hi).drop lo)⟩:ABlk) else s.blk i) (hl2 κ fun _ _=>rfl) (fun _ hr=>hr) (fun _ hr=>.inl hr) (Nat.le_refl _) (fun _ _ _=>rfl) (Calm.refl _) (fun _=>?_) ?_ ?_ h.fsz (an_setB (.inr ⟨rfl,rfl⟩) fun _ _=>rfl)
  ·intro i
   by_cases hi:i=b
   ·subst hi
    simp only [HB,if_true]
    exact ⟨fun _=>by simp,fun h=>by rw [hn] at h;cases h⟩
   ·exact HB.other (h.blks i) (hl2 κ fun _ _=>rfl) (fun _ hr=>hr) (Ext.refl _ _) (by simp [hi]) rfl fun _=>rfl
  ·intro i hi
   by_cases hib:i=b
   ·subst hib;simp [Body.owned,hn] at hi
   ·simp only [if_neg hib] at hi;exact ⟨(h.own i hi).1,(h.own i hi).2.1,.inl ⟨i,hi,rfl⟩⟩
  ·intro i j hi hj e'
   by_cases hib:i=b
   ·subst hib;simp [Body.owned,hn] at hi
   ·by_cases hjb:j=b
    ·subst hjb;simp [Body.owned,hn] at hj
    ·simp only [if_neg hib,if_neg hjb] at hi hj;exact h.inj i j hi hj e'
 ·obtain ⟨cs,T',c1,c2,c3,c4,c5⟩:=hB.2 hn
  let k':KB:=⟨(κ b).blk,o,(κ b).cap - lo,false⟩
  let κ':Nat→KB:=fun i=>if i=b then k' else κ i
  have hκ':∀ b',b'≠b→κ' b'=κ b':=fun b' h=>if_neg h
  have hkb:κ' b=k':=if_pos rfl
  have hown:=h.own b (by rw [hb];simp [Body.owned,hn])
  refine ⟨κ',?_,by rw [hkb,hlen];simp [KB.slice,k']⟩
  refine h.move (H':=fun i=>if i=b then (⟨(s.blk b).gen+1,.arr e ((xs.take hi).drop lo)⟩:ABlk) else s.blk i) (hl2 κ' hκ') (fun _ hr=>hr) (fun _ hr=>.inl hr) (Nat.le_refl _) (fun _ _ _=>rfl) (Calm.refl _) (fun _=>?_) ?_ ?_ h.fsz (an_setB (.inr ⟨rfl,rfl⟩) hκ')
  ·intro i
   by_cases hi':i=b
   ·subst hi'
    simp only [HB,if_true,hkb]
    have hmul:lo*e.size≤(κ i).cap*e.size:=Nat.mul_le_mul_right _ (by omega)
    refine ⟨fun h=>(by cases h),fun _=>⟨cs,T',c1,?_,by rw [hlen];simp only [k'];omega,⟨by simp only [k'];omega,c4.2⟩,fun j hj=>?_⟩⟩
    ·simp only [k']
     rw [Nat.sub_mul]
     omega
    ·rw [hlen] at hj
     obtain ⟨ds,d1,d2⟩:=c5 (lo+j) (by omega)
     have e2:((xs.take hi).drop lo)[j]'(by rw [hlen];exact hj)=xs[lo+j]'(by omega):=by simp
     rw [e2]
     refine ⟨ds,fun m hm=>?_,d2⟩
     have:=d1 m hm
     simp only [k']
     rw [o2 (by omega),←this]
     congr 1
     simp only [Nat.add_mul]
     omega
   ·exact HB.other (h.blks i) (hl2 κ' hκ') (fun _ hr=>hr) (Ext.refl _ _) (by simp [hi']) (hκ' i hi') fun _=>rfl
  ·intro i hi'
   by_cases hib:i=b
   ·subst hib;rw [hkb];exact ⟨hown.1,hown.2.1,.inl ⟨i,by rw [hb];simp [Body.owned,hn],rfl⟩⟩
   ·simp only [if_neg hib] at hi';rw [hκ' i hib] at hi' ⊢;exact ⟨(h.own i hi').1,(h.own i hi').2.1,.inl ⟨i,hi',rfl⟩⟩
  ·intro i j hi' hj e'
   have eb:∀ i,(κ' i).blk=(κ i).blk:=fun i=>by
    by_cases hib:i=b
    ·subst hib;rw [hkb]
    ·rw [hκ' i hib]
   have ob:∀ i,((if i=b then (⟨(s.blk b).gen+1,.arr e ((xs.take hi).drop lo)⟩:ABlk) else s.blk i).body.owned (κ' i)=true)→(s.blk i).body.owned (κ i)=true:=fun i hi=>by
    by_cases hib:i=b
    ·subst hib;rw [hb];simp [Body.owned,hn]
    ·simp only [if_neg hib] at hi;rw [hκ' i hib] at hi;exact hi
   rw [eb,eb] at e'
   exact h.inj i j (ob i hi') (ob j hj) e'
theorem RowIs.later {P:Program} {e:Ty} {F:Nat→Prop} {w w':World} {cs:Array Value} {off:Nat} {xs:List e.Den} (h:RowIs P e F w cs off xs) (he:Ext F w w'):RowIs P e F w' cs off xs:=h.mono (fun _ hr=>hr) he
theorem Src.string {P:Program} {F:Nat→Prop} {w:World} {ty':TypeId} {v:Value} {str:List UInt8} (hu:P.underlying ty'=some .string) (hv:v=.string ⟨str.toArray⟩):Src P (.int .u8) F w ty' v (numsOf str):=by
 subst hv
 have hsz:(ByteArray.mk str.toArray).size=str.length:=by show str.toArray.size=_;simp
 have hl:(numsOf str).length=str.length:=by simp [numsOf]
 refine ⟨.inr hu,fun w1=>?_,(numsOf str).map (Value.int .u8),fun w1 _=>?_,?_,fun i hi=>?_⟩
 ·show Result.ok (ByteArray.mk str.toArray).size w1=_
  rw [hsz,hl]
 ·rw [hl]
  show Result.ok ((((ByteArray.mk str.toArray).extract 0 str.length).data.map fun b=>Value.int .u8 b.toNat)) w1=_
  have e:((ByteArray.mk str.toArray).extract 0 str.length).data=str.toArray:=by
   rw [←hsz]
   simp
  rw [e]
  simp [numsOf]
 ·rw [List.length_map];exact (Nat.mul_one _).symm
 ·have hs:Ty.size (.int .u8)=1:=rfl
  have hi2:i<((numsOf str).map (Value.int .u8)).length:=by rw [List.length_map];exact hi
  rw [hs,Nat.mul_one,List.drop_eq_getElem_cons hi2]
  simp only [List.take_succ_cons,List.take_zero,List.getElem_map]
  refine ⟨rfl,?_⟩
  simp only [numsOf,List.getElem_map]
  have:=(str[i]'(by rw [←hl];exact hi)).toNat_lt
  exact ⟨by show (0:Int)≤_;omega,by show _≤(255:Int);omega⟩
theorem ok_append0 (hT:TabOk C.P T) {x y:Operand} {t u:TypeId} {e:Ty} (hdst:∀ i,o.dst=some i→i<C.nt) (ho:o.op=.call { callee:=.builtin .append,args:=⟨[x,y]⟩,argTypes:=⟨[t,u]⟩ }) (ht:T t=.slice e) {vy:AV} {oy:Prop}
  (hsrc:∀ {a:Act} {w:World} {κ:Nat→KB} {F:Nat→Prop} {ys:List e.Den} {l:List Nat},RelK C s a w κ F→oy→(asDen (.slice e) vy).run s.blk=some (ys,l)→Src C.P e F w u (a.eval y) ys)
  (h:(appendV o.dst e (use (opAV C.ft s.slot x)).2 vy ((use (opAV C.ft s.slot x)).1∧oy)).run s.blk=some res):OpOk C o s res:=by
 have hd:∀ c,o.op≠.defer c:=by rw [ho];intro c hc;cases hc
 have hti:=hT.is ht (by simp)
 obtain ⟨eid,hj,hj2,hj3⟩:=hti.sl
 obtain ⟨inf,z,i1,i2,i3,i4,i5,i6⟩:=infoOk_out hj2.info
 have exe:∀ (a:Act) (w w':World) v,(Builtin.append_ #[t,u] o.type #[a.eval x,a.eval y]).run C.P w=.ok v w'→(execOp a.eval o).run C.P w=.ok (.value v) w':=by
  intro a w w' v hv
  refine run_call_builtin ho ?_
  simp [builtin,hv]
 have main:∀ (s:AState) (a:Act) (w:World) (κ:Nat→KB) (F:Nat→Prop) (Q:Exit→Act→World→Prop) (b g:Nat) (xs ys:List e.Den),RelK C s a w κ F→
   Src C.P e F w u (a.eval y) ys→
   (s.blk b).gen<g→(∃ q cap,a.eval x=.slice q xs.length cap∧((q=none∧xs=[]∧cap=0)∨∃ p all,q=some p∧RowL C.P e F w all xs∧Reads w p all))→
   (∀ q cap,a.eval x=.slice q xs.length cap→q≠none→xs.length+ys.length≤cap→(s.blk b).body=.arr e xs∧(κ b).isNil=false∧q=some ⟨(κ b).blk,(κ b).off,none⟩∧cap=(κ b).cap)→lenLe (xs.length+ys.length)→
   o.wpIn (rnd C.r) 0 C.P a w (fun a' w'=>Rel C ((s.setB b ⟨g,.arr e (xs++ys)⟩).set o.dst (.own b g)) a' w') Q:=by
  intro s a w κ F Q b g xs ys hr hyr hgen hxv hxb hlen
  obtain ⟨q,cap,hxv,hxr⟩:=hxv
  obtain ⟨hund,hlenY,new,n1',n2⟩:=id hyr
  have n1:=n1' w (.inl rfl)
  have setown:∀ (κ':Nat→KB) (v:Value) (w':World),RelK C (s.setB b ⟨g,.arr e (xs++ys)⟩) a w' κ' F→v=(κ' b).slice (xs++ys).length→Rel C ((s.setB b ⟨g,.arr e (xs++ys)⟩).set o.dst (.own b g)) (a.put o.dst v) w':=by
   intro κ' v w' hr' hv
   refine ⟨κ',F,RelK.set hr' hdst ⟨⟨by simp [AState.setB],?_⟩,fun _ _=>?_⟩⟩
   ·rw [hv];unfold KB.slice;split<;>rfl
   ·rw [hv];simp [AState.setB,Body.len]
  by_cases hroom:xs.length+ys.length≤cap
  ·
   cases hq:q with
   | none=>
    subst hq
    obtain ⟨hx0,hc0⟩:xs=[]∧cap=0:=by
     rcases hxr with ⟨_,h1,h2⟩ | ⟨p,all,h1,_⟩
     ·exact ⟨h1,h2⟩
     ·cases h1
    subst hx0;subst hc0
    have hy0:ys=[]:=by simpa using hroom
    subst hy0
    skip
    have hrun:(Builtin.append_ #[t,u] o.type #[a.eval x,a.eval y]).run C.P w=.ok (.slice none 0 0) w:=by
     rw [hxv]
     simp only [List.length_nil] at n1 ⊢
     rcases hund with ⟨j',hj'⟩ | hj'<;>(simp [Builtin.append_,run_underlying' hj,run_underlying' hj',run_sizeOf' i1,hlenY];rw [i2,n1];simp)
    refine oper_value hd (exe a w w _ hrun) (setown _ _ _ (hr.renew (k:=⟨0,0,0,true⟩) hgen (.inl rfl) (Nat.le_refl _) (fun _ _=>rfl) (fun h=>by cases h) (Calm.refl _) fun H κ'=>⟨fun _=>rfl,fun h=>by cases h⟩) ?_)
    simp [KB.slice]
   | some p0=>
    obtain ⟨hb,hnil,hp,hcap⟩:=hxb q cap hxv (by rw [hq];simp) hroom
    rw [hq] at hp
    have hp:=Option.some.inj hp
    subst hp
    subst hcap
    have hB:=hr.blks b
    unfold HB at hB
    rw [hb] at hB
    obtain ⟨cs,T',c1,c2,c3,c4,c5⟩:=hB.2 hnil
    skip
    have hnl:=n2.1
    have hone:∀ v∈new,v.oneCell'=true:=by
     intro v hv
     obtain ⟨j,hj,rfl⟩:=List.mem_iff_getElem.1 hv
     have hpos:0<e.size:=Nat.pos_of_ne_zero hj3
     have hdiv:j / e.size<ys.length:=(Nat.div_lt_iff_lt_mul hpos).2 (by rw [←hnl];exact hj)
     have hrc:=n2.2 (j / e.size) hdiv
     have hal:=leafs_ok (P:=C.P) (H:=fun _=>⟨0,.dead⟩) (κ:=fun _=>⟨0,0,0,true⟩) e hrc
     have hmod:=Nat.mod_lt j hpos
     have hjj:j / e.size*e.size+j % e.size=j:=Nat.div_add_mod' j e.size
     have hlen2:((new.drop (j / e.size*e.size)).take e.size).length=e.size:=RC_len e hrc
     have:=(hal.nth (j % e.size) (by rw [hal.len,hlen2];exact hmod)).2
     rw [List.getD_eq_getElem?_getD,List.getElem?_take,if_pos hmod,List.getElem?_drop,hjj,List.getElem?_eq_getElem hj] at this
     exact this
    have hpos2:(κ b).off+xs.length*e.size+0+new.length≤cs.size:=by
     rw [hnl]
     have:(xs.length+ys.length)*e.size≤(κ b).cap*e.size:=Nat.mul_le_mul_right _ hroom
     rw [Nat.add_mul] at this
     omega
    obtain ⟨w',cs',r1,r2,r3,r4,r5,r6⟩:=storeCells_ok (P:=C.P) new ((κ b).off+xs.length*e.size) 0 w cs c1 hpos2 hone
    have hrun:(Builtin.append_ #[t,u] o.type #[a.eval x,a.eval y]).run C.P w=.ok (.slice (some ⟨(κ b).blk,(κ b).off,none⟩) (xs.length+ys.length) (κ b).cap) w':=by
     rw [hxv,hq]
     rcases hund with ⟨j',hj'⟩ | hj'<;>(simp only [Builtin.append_,List.getElem?_toArray,List.getElem?_cons_zero,List.getElem?_cons_succ,Sem.run_bind,run_underlying' hj,run_underlying' hj',Result.andThen_ok,run_sizeOf' i1,i2,Sem.run_pure,hlenY,Bool.false_eq_true,if_false,if_pos hroom,Bool.not_false,if_true,n1,add_addr];simp only [r1,Result.andThen_ok])
    have hl2:Later s.blk κ (fun i=>if i=b then (⟨g,.arr e (xs++ys)⟩:ABlk) else s.blk i) κ:=later_setB hgen fun _ _=>rfl
    refine oper_value hd (exe a w w' _ hrun) (setown κ _ _ (hr.write (b:=b) (by rw [hb];simp [Body.owned,hnil]) (by simp [Body.owned,hnil]) hl2 (fun h=>by cases h) (fun h=>by cases h) r4 r5 r6 fun H hH hlt he=>?_) (by simp [KB.slice,hnil]))
    refine ⟨fun h=>(by rw [hnil] at h;cases h),fun _=>?_⟩
    have hsz':cs'.size=cs.size:=by
     rw [←Array.length_toList,r3]
     simp only [List.length_append,List.length_take,List.length_drop,Array.length_toList]
     omega
    refine ⟨cs',T',r2,by omega,by simp;omega,c4,fun i hi=>?_⟩
    simp only [Nat.add_zero] at r3
    have hpre:(cs.toList.take ((κ b).off+xs.length*e.size)).length=(κ b).off+xs.length*e.size:=by simp;omega
    by_cases hix:i<xs.length
    ·obtain ⟨ds,d1,d2⟩:=c5 i hix
     have e1:(xs++ys)[i]=xs[i]:=List.getElem_append_left hix
     rw [e1]
     refine ⟨ds,fun k hk=>?_,RC_mono e (fun _ hr=>hr) he d2⟩
     have hds:=RC_len e d2
     have hle:(i+1)*e.size≤xs.length*e.size:=Nat.mul_le_mul_right _ (by omega)
     rw [Nat.add_mul] at hle
     rw [←Array.getElem?_toList,r3,List.getElem?_append_left (by omega),List.getElem?_take,if_pos (by omega)]
     rw [Array.getElem?_toList]
     exact d1 k hk
    ·have hi':i - xs.length<ys.length:=by simp at hi;omega
     have e1:(xs++ys)[i]=ys[i - xs.length]:=List.getElem_append_right (by omega)
     rw [e1]
     have hri:=n2.rowIs (pre:=cs.toList.take ((κ b).off+xs.length*e.size)) (post:=cs.toList.drop ((κ b).off+xs.length*e.size+new.length)) r3
     obtain ⟨ds,d1,d2⟩:=hri (i - xs.length) hi'
     refine ⟨ds,fun k hk=>?_,RC_mono e (fun _ hr=>hr) he d2⟩
     have:=d1 k hk
     rw [hpre] at this
     rw [←this]
     congr 1
     have:i*e.size=xs.length*e.size+(i - xs.length)*e.size:=by rw [←Nat.add_mul];congr 1;omega
     omega
  ·
   obtain ⟨eid2,newCap,cs,r1,r2,r3,r4,r5⟩:=append_new (P:=C.P) (w:=w) (F:=F) (cap:=cap) hti hxr hyr (by omega) hlen o.type
   rw [←hxv] at r1
   refine oper_value hd (exe a w _ _ r1) (setown _ _ _ (hr.renew (k:=⟨w.heap.size,0,newCap,false⟩) hgen (.inr rfl) (by simp) (fun r hr=>?_) (fun _=>by simp) ⟨rfl,rfl,rfl⟩ fun H κ'=>⟨fun h=>(by cases h),fun _=>⟨cs,eid2,?_,by simp [r4],by simpa using r3,r2,?_⟩⟩) ?_)
   ·exact heap_alloc_lt w.drew _ hr
   ·exact heap_alloc_new w.drew _
   ·exact r5.later ⟨by simp,fun r hr'=>heap_alloc_lt w.drew _ (hr.fsz r hr')⟩
   ·simp [KB.slice]
 simp only [appendV] at h
 split at h
 ·rename_i b g hxe
  simp only [Rd.run_get] at h
  split at h
  ·rename_i e' xs hbody
   split at h
   ·rename_i hee
    subst hee
    simp only [Rd.run_bindO,Option.bind_eq_some_iff,Rd.run_ret,Option.some.injEq] at h
    obtain ⟨⟨ys,l⟩,hys,rfl⟩:=h
    have hg:(s.blk b).gen=g∧(s.blk b).body=.arr e' xs:=by
     by_cases hgg:(s.blk b).gen=g
     ·rw [if_pos hgg] at hbody;exact ⟨hgg,hbody⟩
     ·rw [if_neg hgg] at hbody;cases hbody
    intro a w κ F Q hr hob hc
    have hx:RA C.P s.blk κ F w (use (opAV C.ft s.slot x)).2 (a.eval x):=use_op hr x rfl hob.1
    have hx':=hx
    rw [hxe] at hx'
    have hv:=hx'.2 hg.1.symm (by rw [hg.2];rfl)
    rw [hg.2] at hv
    simp only [Body.len] at hv
    have hxs:(asDen (.slice e') (use (opAV C.ft s.slot x)).2).run s.blk=some (xs,[b]):=by
     rw [hxe]
     simp [asDen,asTop,Ty.isLeaf,asLeaf,hg.1,hg.2,castDen]
    refine main s a w κ F Q b (g+1) xs ys hr (hsrc hr hob.2 hys) (by rw [hg.1];exact Nat.lt_succ_self _) (elems_ok hr hxs hx) (fun q cap hq hqn _=>?_) hc
    rw [hv] at hq
    cases hn:(κ b).isNil with
    | true=>
     simp only [KB.slice,hn,if_true,Value.slice.injEq] at hq
     exact absurd hq.1.symm hqn
    | false=>
     simp only [KB.slice,hn,Bool.false_eq_true,if_false,Value.slice.injEq] at hq
     exact ⟨hg.2,rfl,hq.1.symm,hq.2.2.symm⟩
   ·cases h
  ·cases h
 ·rename_i b g lo hi hxe
  simp only [Rd.run_get] at h
  split at h
  ·rename_i e' xs hbody
   split at h
   ·rename_i hee
    subst hee
    simp only [Rd.run_bindO,Option.bind_eq_some_iff,Rd.run_ret,Option.some.injEq] at h
    obtain ⟨⟨ys,l⟩,hys,rfl⟩:=h
    have hg:(s.blk b).gen=g∧(s.blk b).body=.arr e' xs:=by
     by_cases hgg:(s.blk b).gen=g
     ·rw [if_pos hgg] at hbody;exact ⟨hgg,hbody⟩
     ·rw [if_neg hgg] at hbody;cases hbody
    intro a w κ F Q hr hob hc
    have hx:RA C.P s.blk κ F w (use (opAV C.ft s.slot x)).2 (a.eval x):=use_op hr x rfl hob.1
    rw [hxe] at hx
    obtain ⟨⟨k1,k2⟩,k3⟩:=hx.2 hg.1.symm (by rw [hg.2];rfl)
    rw [hg.2] at k2 k3
    simp only [Body.len,Body.esz] at k2 k3
    obtain ⟨κ',hr',hv⟩:=hr.consume hg.2 k1 k2 k3
    have hyr:=hsrc hr hob.2 hys
    have hsb:(s.setB b ⟨(s.blk b).gen+1,.arr e' ((xs.take hi).drop lo)⟩).blk b=⟨(s.blk b).gen+1,.arr e' ((xs.take hi).drop lo)⟩:=by simp [AState.setB]
    have hxs:(asDen (.slice e') (.own b (g+1))).run (s.setB b ⟨(s.blk b).gen+1,.arr e' ((xs.take hi).drop lo)⟩).blk=some ((xs.take hi).drop lo,[b]):=by
     simp [asDen,asTop,Ty.isLeaf,asLeaf,AState.setB,hg.1,castDen]
    have hxr:RA C.P (s.setB b ⟨(s.blk b).gen+1,.arr e' ((xs.take hi).drop lo)⟩).blk κ' F w (.own b (g+1)) (a.eval x):=by
     refine ⟨⟨by rw [hsb,hg.1];exact Nat.le_refl _,hx.1.2⟩,fun _ _=>?_⟩
     rw [hsb]
     exact hv
    have:=main (s.setB b ⟨(s.blk b).gen+1,.arr e' ((xs.take hi).drop lo)⟩) a w κ' F Q b (g+2) ((xs.take hi).drop lo) ys hr' hyr (by rw [hsb,hg.1];simp) (elems_ok hr' hxs hxr) (fun q cap hq hqn _=>?_) hc
    ·rw [setB_setB] at this
     exact this
    ·rw [hv] at hq
     cases hn:(κ' b).isNil with
     | true=>
      simp only [KB.slice,hn,if_true,Value.slice.injEq] at hq
      exact absurd hq.1.symm hqn
     | false=>
      simp only [KB.slice,hn,Bool.false_eq_true,if_false,Value.slice.injEq] at hq
      exact ⟨by rw [hsb],rfl,hq.1.symm,hq.2.2.symm⟩
   ·cases h
  ·cases h
 ·rename_i hxe
  simp only [Rd.run_bindO,Option.bind_eq_some_iff] at h
  obtain ⟨⟨ys,l⟩,hys,h⟩:=h
  obtain ⟨b,hb,hk⟩:=newB_some h
  simp only [Option.some.injEq] at hk
  subst hk
  intro a w κ F Q hr hob hc
  have hx:RA C.P s.blk κ F w (use (opAV C.ft s.slot x)).2 (a.eval x):=use_op hr x rfl hob.1
  rw [hxe] at hx
  simp only [RA] at hx
  have:=main s a w κ F Q b ((s.blk b).gen+1) [] ys hr (hsrc hr hob.2 hys) (Nat.lt_succ_self _) ⟨none,0,hx,.inl ⟨rfl,rfl,rfl⟩⟩ (fun q cap hq hqn _=>by rw [hx] at hq;simp only [Value.slice.injEq] at hq;exact absurd hq.1.symm hqn) (by simpa using hc)
  exact this
 ·rename_i e' xs hxe
  split at h
  ·rename_i hee
   subst hee
   simp only [Rd.run_bindO,Option.bind_eq_some_iff] at h
   obtain ⟨⟨ys,l⟩,hys,h⟩:=h
   obtain ⟨b,hb,hk⟩:=newB_some h
   simp only [Option.some.injEq] at hk
   subst hk
   intro a w κ F Q hr hob hc
   have hx:RA C.P s.blk κ F w (use (opAV C.ft s.slot x)).2 (a.eval x):=use_op hr x rfl hob.1
   rw [hxe] at hx
   obtain ⟨hx1,q0,hx2⟩:=hx
   have hxs:(asDen (.slice e') (.val (.slice e') xs)).run s.blk=some (xs,[]):=by
    simp [asDen,castDen]
   exact main s a w κ F Q b ((s.blk b).gen+1) xs ys hr (hsrc hr hob.2 hys) (Nat.lt_succ_self _) (elems_ok hr hxs hx1) (fun q cap hq hqn hroom=>by
    rw [hx2] at hq
    simp only [Value.slice.injEq] at hq
    have:=hc.1
    omega) hc.2
  ·cases h
 ·cases h
theorem ok_append (hT:TabOk C.P T) {args:Array Operand} {tys:Array TypeId} (hdst:∀ i,o.dst=some i→i<C.nt) (ho:o.op=.call { callee:=.builtin .append,args:=args,argTypes:=tys }) (h:(appendOpV T (opAV C.ft s.slot) o.dst args.toList tys.toList).run s.blk=some res):OpOk C o s res:=by
 obtain ⟨args⟩:=args
 obtain ⟨tys⟩:=tys
 simp only [appendOpV] at h
 split at h
 ·rename_i x y t u
  split at h
  ·rename_i e e2 ht hu
   obtain ⟨eid',hj',_⟩:=(hT.is hu (by simp)).sl
   refine ok_append0 hT hdst ho ht (fun {a w κ F ys l} hr hob hys=>?_) h
   obtain ⟨q',cap',hyv,hyr⟩:=elems_ok hr hys (use_op hr y rfl hob)
   exact Src.slice ⟨_,hj'⟩ hyv hyr
  ·rename_i ht hu
   split at h
   ·rename_i str hvy
    have hstr:=(hT.is hu (by simp)).str
    refine ok_append0 hT hdst ho ht (fun {a w κ F ys l} hr hob hys=>?_) h
    have hy:RA C.P s.blk κ F w (use (opAV C.ft s.slot y)).2 (a.eval y):=use_op hr y rfl hob
    rw [hvy] at hy
    obtain ⟨hyv,hyl⟩:=RV_str.1 hy
    have h2:(asDen (.slice (.int .u8)) (.val (.slice (.int .u8)) (numsOf str))).run s.blk=some (numsOf str,[]):=by simp [asDen,castDen]
    rw [h2] at hys
    cases hys
    exact Src.string hstr hyv
   ·cases h
  ·cases h
 ·cases h
theorem rowL_bytes {P:Program} {F:Nat→Prop} {w:World} {all:List Value} {ys:List Int} (h:RowL P (.int .u8) F w all ys):all=ys.map (Value.int .u8):=by
 obtain ⟨h1,h2⟩:=h
 have h1:all.length=ys.length:=h1.trans (Nat.mul_one _)
 apply List.ext_getElem (by simpa using h1)
 intro i hi hi'
 have hi2:i<ys.length:=by omega
 obtain ⟨e,_⟩:=h2 i hi2
 have hs:Ty.size (.int .u8)=1:=rfl
 rw [hs,Nat.mul_one,List.drop_eq_getElem_cons hi] at e
 have:=(List.cons.inj e).1
 rw [this]
 simp
theorem foldl_pushL:∀ (ys:List Int) (s:ByteArray),ys.foldl (fun r n=>r.push (UInt8.ofNat n.toNat)) s=⟨s.data++(bytesOf ys).toArray⟩
 | [],s=>by simp [bytesOf]
 | y::ys,s=>by
  rw [List.foldl_cons,foldl_pushL ys]
  refine congrArg ByteArray.mk ?_
  apply Array.ext'
  simp [bytesOf,ByteArray.push]
theorem foldl_push (ys:List Int):ys.foldl (fun r n=>r.push (UInt8.ofNat n.toNat)) ByteArray.empty=⟨(bytesOf ys).toArray⟩:=by
 rw [foldl_pushL]
 refine congrArg ByteArray.mk ?_
 apply Array.ext'
 simp [ByteArray.empty,ByteArray.emptyWithCapacity]
 rfl
theorem ok_convert (hT:TabOk C.P T) {ta tb:TypeId} {x:Operand} (hdst:∀ i,o.dst=some i→i<C.nt) (ho:o.op=.convert ta tb x) (h:(opV0 C.ft T Φ (opAV C.ft s.slot) o).run s.blk=some res):OpOk C o s res:=by
 simp only [opV0,ho] at h
 split at h
 ·rename_i k1 k k2 n t1 t2 hx
  simp only [okRes,Rd.run_ret,Option.some.injEq] at h
  subst h
  refine OpOk.pure (by rw [ho];intro c hc;cases hc) hdst fun a w κ F hr hob _=>?_
  have h1:=int?_ok (use_op hr x rfl hob) hx
  have e1:=(hT.is t1 (by simp)).int
  have e2:=(hT.is t2 (by simp)).int
  refine ⟨.int k (k.wrap n),?_,RV_int.2 ⟨rfl,InR_wrap _ _⟩⟩
  simp [execOp,ho,convert,run_underlying' e1,run_underlying' e2,h1.1,Conv.intToInt]
 ·rename_i t1 t2
  simp only [Rd.run_bindO,Option.bind_eq_some_iff,okRes,Rd.run_ret,Option.some.injEq] at h
  obtain ⟨⟨ys,l⟩,hys,rfl⟩:=h
  refine OpOk.pure (by rw [ho];intro c hc;cases hc) hdst fun a w κ F hr hob _=>?_
  have hu:=use_op hr x rfl hob
  obtain ⟨q,cap,hv,hyr⟩:=elems_ok hr hys hu
  have hlt:ys.length<2 ^ 63:=by
   have h1:=asDen_ok (F':=fun _=>True) hr.blks (fun _ _=>trivial) hys (fun _ _ _=>trivial) hu
   obtain ⟨_,h2⟩:=(RV_leaf rfl).1 h1
   obtain ⟨q',cap',e1,m1,m2,_⟩:=h2
   have e2:=(List.cons.inj (e1.symm.trans rfl)).1
   omega
  obtain ⟨eid,hj,hj2,_⟩:=(hT.is t1 (by simp)).sl
  have e1:=hj2.int
  have e2:=(hT.is t2 (by simp)).str
  refine ⟨.string ⟨(bytesOf ys).toArray⟩,?_,RV_str.2 ⟨rfl,by simpa [bytesOf] using hlt⟩⟩
  have hc:(convert ta tb (a.eval x)).run C.P w=.ok (.string ⟨(bytesOf ys).toArray⟩) w:=by
   rw [hv,run_convert_bytes_string w ta tb eid q ys.length cap hj e1 e2]
   rcases hyr with ⟨rfl,rfl,rfl⟩ | ⟨p,all,rfl,ha,hrd⟩
   ·rfl
   ·have hall:all=ys.map (Value.int .u8):=rowL_bytes ha
    have hl:=reads_run (P:=C.P) hrd
    rw [hall,List.length_map] at hl
    rw [run_bytesToString w p ys.length cap ys hl]
    refine congrArg (fun s=>Result.ok (Value.string s) w) ?_
    exact foldl_push ys
  simp [execOp,ho,hc]
 ·cases h
end
end Go.Fer
namespace Go.Fer
open Go.RowKit
theorem FnSpec.weaken {P:Program} {k:FuncId} {ts tr:Ty} {sh sh':ts.Den→M tr.Den} (h:FnSpec P k ts tr sh) (hs:∀ x,M.le (sh x) (sh' x)):FnSpec P k ts tr sh' where
 enter:=h.enter
 calls:=fun F w args x hF hG ha hsafe=>by
  obtain ⟨h1,h2⟩:=hs x hsafe
  exact (h.calls F w args x hF hG ha h1).mono fun e w' ⟨v,y,e1,e2,e3⟩=>⟨v,y,e1,h2 y e2,e3⟩
def FC.sh (c:FC) (x:c.ts.Den):M c.tr.Den:=M.det (c.pre x) (c.g x)
def CtrOk (P:Program) (Φ:Nat→Option FC):Prop:=∀ k c,Φ k=some c→FnSpec P k c.ts c.tr c.sh
theorem asArgs_single {t:Ty} (ht:t.single=true) (avs:List AV):asArgs t avs=(match avs with | [v]=>asDen t v | _=>.none:Rd (Option (t.Den×List Nat))):=by
 cases t<;>first
  | (cases ht;done)
  | (rcases avs with _ | ⟨v,_ | ⟨u,vs⟩⟩<;>rfl)
theorem asArgs_ok {P:Program} {H:Nat→ABlk} {κ:Nat→KB} {F F':Nat→Prop} {w:World} (hB:∀ b,HB P H κ F w b) (hF:∀ r,F r→F' r):∀ (t:Ty) {avs:List AV} {vs:List Value} {x:t.Den} {l:List Nat},(asArgs t avs).run H=some (x,l)→
  FzIn H κ F' l→avs.length=vs.length→(∀ i (h:i<avs.length) (h':i<vs.length),RA P H κ F w avs[i] vs[i])→RArgs P t F' w vs x:=by
 have single:∀ (t:Ty),t.single=true→∀ {avs:List AV} {vs:List Value} {x:t.Den} {l:List Nat},(match avs with | [v]=>asDen t v | _=>.none:Rd (Option (t.Den×List Nat))).run H=some (x,l)→
   FzIn H κ F' l→avs.length=vs.length→(∀ i (h:i<avs.length) (h':i<vs.length),RA P H κ F w avs[i] vs[i])→RArgs P t F' w vs x:=by
  intro t ht avs vs x l h hl hlen hall
  split at h
  ·rename_i v
   match vs,hlen with
   | [u],_=>
    refine (RArgs_single ht).2 ⟨u,rfl,asDen_ok hB hF h hl ?_⟩
    exact hall 0 (by simp) (by simp)
  ·cases h
 intro t
 induction t with
 | prod a b iha ihb=>
  intro avs vs x l h hl hlen hall
  match avs,vs,hlen with
  | [],_,_=>simp [asArgs,Rd.none] at h
  | v::avs,u::vs,hlen=>
   simp only [asArgs,Rd.run_bindO,Option.bind_eq_some_iff,Rd.run_ret,Option.some.injEq,Prod.mk.injEq] at h
   obtain ⟨⟨y,m⟩,h1,⟨z,m'⟩,h2,rfl,rfl⟩:=h
   refine RArgs_cons.2 ⟨asDen_ok hB hF h1 hl.left (hall 0 (by simp) (by simp)),?_⟩
   exact ihb h2 hl.right (by simpa using hlen) fun i hi hi'=>by
    have:=hall (i+1) (by simpa using hi) (by simpa using hi');simpa using this
 | unit=>
  intro avs vs x l h hl hlen hall
  match avs,vs,hlen with
  | [],[],_=>exact ⟨rfl,rfl⟩
  | _::_,_,_=>simp [asArgs,Rd.none] at h
 | bool=>intro avs vs x l h;rw [asArgs_single rfl] at h;exact single _ rfl h
 | int k=>intro avs vs x l h;rw [asArgs_single rfl] at h;exact single (.int k) rfl h
 | str=>intro avs vs x l h;rw [asArgs_single rfl] at h;exact single _ rfl h
 | st t _=>intro avs vs x l h;rw [asArgs_single rfl] at h;exact single (.st t) rfl h
 | slice e _=>intro avs vs x l h;rw [asArgs_single rfl] at h;exact single (.slice e) rfl h
 | array n e _=>intro avs vs x l h;rw [asArgs_single rfl] at h;exact single (.array n e) rfl h
 | ptr e _=>intro avs vs x l h;rw [asArgs_single rfl] at h;exact single (.ptr e) rfl h
 | map k v _ _=>intro avs vs x l h;rw [asArgs_single rfl] at h;exact single (.map k v) rfl h
 | fn a b _ _=>intro avs vs x l h;rw [asArgs_single rfl] at h;exact single (.fn a b) rfl h
 | it a _=>intro avs vs x l h;rw [asArgs_single rfl] at h;exact single (.it a) rfl h
 | raws e _=>intro avs vs x l h;rw [asArgs_single rfl] at h;exact single (.raws e) rfl h
theorem asArgs_closed {H:Nat→ABlk}:∀ (t:Ty) {avs:List AV} {x:t.Den} {l:List Nat},(asArgs t avs).run H=some (x,l)→Closed H l:=by
 have single:∀ (t:Ty),t.single=true→∀ {avs:List AV} {x:t.Den} {l:List Nat},(match avs with | [v]=>asDen t v | _=>.none:Rd (Option (t.Den×List Nat))).run H=some (x,l)→Closed H l:=by
  intro t _ avs x l h
  split at h
  ·exact asDen_closed h
  ·cases h
 intro t
 induction t with
 | prod a b iha ihb=>
  intro avs x l h
  match avs with
  | []=>simp [asArgs,Rd.none] at h
  | v::avs=>
   simp only [asArgs,Rd.run_bindO,Option.bind_eq_some_iff,Rd.run_ret,Option.some.injEq,Prod.mk.injEq] at h
   obtain ⟨⟨y,m⟩,h1,⟨z,m'⟩,h2,rfl,rfl⟩:=h
   exact (asDen_closed h1).append (ihb h2)
 | unit=>
  intro avs x l h
  match avs with
  | []=>
   simp only [asArgs,Rd.run_ret,Option.some.injEq,Prod.mk.injEq] at h
   rw [←h.2]
   exact .nil H
  | _::_=>simp [asArgs,Rd.none] at h
 | bool=>intro avs x l h;rw [asArgs_single rfl] at h;exact single _ rfl h
 | int k=>intro avs x l h;rw [asArgs_single rfl] at h;exact single (.int k) rfl h
 | str=>intro avs x l h;rw [asArgs_single rfl] at h;exact single _ rfl h
 | st t _=>intro avs x l h;rw [asArgs_single rfl] at h;exact single (.st t) rfl h
 | slice e _=>intro avs x l h;rw [asArgs_single rfl] at h;exact single (.slice e) rfl h
 | array n e _=>intro avs x l h;rw [asArgs_single rfl] at h;exact single (.array n e) rfl h
 | ptr e _=>intro avs x l h;rw [asArgs_single rfl] at h;exact single (.ptr e) rfl h
 | map k v _ _=>intro avs x l h;rw [asArgs_single rfl] at h;exact single (.map k v) rfl h
 | fn a b _ _=>intro avs x l h;rw [asArgs_single rfl] at h;exact single (.fn a b) rfl h
 | it a _=>intro avs x l h;rw [asArgs_single rfl] at h;exact single (.it a) rfl h
 | raws e _=>intro avs x l h;rw [asArgs_single rfl] at h;exact single (.raws e) rfl h
theorem elemsD_closed {H:Nat→ABlk} {e:Ty} {ps:List (Nat×AV)}:∀ (n i:Nat) {xs:List e.Den} {l:List Nat},(elemsD e ps i n).run H=some (xs,l)→Closed H l:=by
 intro n
 induction n with
 | zero=>intro i xs l h;cases h;exact .nil H
 | succ n ih=>
  intro i xs l h
  simp only [elemsD,Rd.run_bindO,Option.bind_eq_some_iff,Rd.run_ret,Option.some.injEq,Prod.mk.injEq] at h
  obtain ⟨⟨x,m⟩,h1,⟨ys,m'⟩,h2,rfl,rfl⟩:=h
  refine Closed.append ?_ (ih (i+1) h2)
  split at h1
  ·exact asDen_closed h1
  ·simp only [Rd.run_ret,Option.some.injEq,Prod.mk.injEq] at h1
   rw [←h1.2]
   exact .nil H
theorem RArgs_pure {P:Program} {F F':Nat→Prop} {w w':World} {t:Ty} {vs:List Value} {x:t.Den} (ht:t.pure=true) (h:RArgs P t F w vs x):RArgs P t F' w' vs x:=⟨h.1,RC_pure t ht h.2⟩
theorem args_ok {P:Program} {H:Nat→ABlk} {κ:Nat→KB} {F:Nat→Prop} {w:World}:∀ (t:Ty) {vs:List Value} {y:t.Den},RArgs P t F w vs y→t≠.unit→vs.length=resN t∧∀ i,i<resN t→RA P H κ F w (resAV t y i) (vs.getD i Go.undef):=by
 intro t
 induction t with
 | prod a b _ ihb=>
  intro vs y h _
  obtain ⟨v,us,rfl,h1,h2⟩:=RArgs_prod h
  by_cases hb:b=.unit
  ·subst hb
   have:us=[]:=h2.1
   subst this
   refine ⟨rfl,fun i hi=>?_⟩
   cases i with
   | zero=>exact h1
   | succ i=>simp only [resN] at hi;omega
  ·obtain ⟨k1,k2⟩:=ihb h2 hb
   refine ⟨by simp [resN,k1],fun i hi=>?_⟩
   cases i with
   | zero=>exact h1
   | succ i=>
    have:=k2 i (by simp only [resN] at hi;omega)
    simpa [resAV] using this
 | unit=>intro vs y _ h;exact absurd rfl h
 | _=>
  intro vs y h _
  obtain ⟨v,rfl,h1⟩:=(RArgs_single rfl).1 h
  refine ⟨rfl,fun i hi=>?_⟩
  simp only [resN] at hi
  have:i=0:=by omega
  subst this
  exact h1
theorem resV_ok {P:Program} {H:Nat→ABlk} {κ:Nat→KB} {F:Nat→Prop} {w:World} {t:Ty} {v:Value} {y:t.Den} (h:RRes P t F w v y):RA P H κ F w (resV t y) v:=by
 have tup:=@args_ok P H κ F w
 obtain ⟨vs,h1,h2⟩:=h
 cases t with
 | prod a b=>
  simp only [ResVal] at h1
  obtain ⟨k1,k2⟩:=tup (.prod a b) h2 (by simp)
  exact ⟨vs,h1,k1,k2⟩
 | unit=>exact h1.1
 | _=>
  obtain ⟨u,rfl,hu⟩:=(RArgs_single rfl).1 h2
  have:v=u:=by simpa [ResVal,eq_comm] using h1
  rw [this]
  exact hu
section
variable {C:Ctx} {T:Nat→Ty} {Φ:Nat→Option FC} {o:Oper} {s:AState} {res:OpRes}
theorem RelK.grow {a:Act} {w w':World} {κ:Nat→KB} {F:Nat→Prop} (h:RelK C s a w κ F) (hb:Below w.heap.size w w'):RelK C s a w' κ (Grow F w w'):=by
 have he:Ext F w w':=⟨hb.size,fun r hr=>hb.block r (h.fsz r hr)⟩
 refine h.move (H':=s.blk) (Later.refl _ _) (fun _ hr=>.inl hr) (fun r hr=>hr.imp id fun hr=>.inr hr.1) hb.size (fun r hr _=>hb.block r hr) ⟨hb.os,hb.tape,hb.output⟩ (fun _=>?_) ?_ h.inj ?_ (fun _ _ h=>⟨rfl,h⟩)
 ·intro b
  exact HB.other (h.blks b) (Later.refl _ _) (fun _ hr=>.inl hr) he rfl rfl fun ho=>hb.block _ (h.own b ho).1
 ·intro b ho
  have:=h.own b ho
  refine ⟨Nat.lt_of_lt_of_le this.1 hb.size,fun hf=>?_,.inl ⟨b,ho,rfl⟩⟩
  rcases hf with hf | ⟨hf,_⟩
  ·exact this.2.1 hf
  ·omega
 ·intro r hr
  rcases hr with hr | ⟨_,hr⟩
  ·exact Nat.lt_of_lt_of_le (h.fsz r hr) hb.size
  ·exact hr
theorem oper_call {r:Option Nat} {P:Program} {o:Oper} {a:Act} {w:World} {K:Act→World→Prop} {Q:Exit→Act→World→Prop} {f:FuncId} {args:Array Value} {R:Ending→World→Prop} (hd:∀ c,o.op≠.defer c)
  (h:(execOp a.eval o).run P w=.ok (.enter f args) w) (hc:Calls P f args w R) (hk:∀ e w',R e w'→∃ v,e=.returned v∧K (a.put o.dst v) w'):o.wpIn (rnd r) 0 P a w K Q:=by
 refine ⟨fun _ _=>trivial,?_⟩
 rw [semAt_rnd hd,h]
 refine ⟨fun hs=>(by cases hs),?_⟩
 have h1:CallsIn Fence.wide 0 P f args w R:=callsIn_wide.2 hc
 have h2:CallsIn (rnd r) 0 P f args w R:=by
  cases r with
  | none=>exact h1
  | some l=>exact CallsIn.inRound l h1
 refine h2.mono fun e w' he=>?_
 obtain ⟨v,rfl,hv⟩:=hk e w' he
 exact hv
theorem call_ok {a:Act} {w:World} {κ:Nat→KB} {F:Nat→Prop} {Q:Exit→Act→World→Prop} {K:Act→World→Prop} {k:FuncId} {ts tr:Ty} {sh:ts.Den→M tr.Den} (hr:RelK C s a w κ F) (hf:FnSpec C.P k ts tr sh)
  (hdst:∀ i,o.dst=some i→i<C.nt) {args:Array Operand} {tys:Array TypeId} (ho:o.op=.call { callee:=.value (.func k),args:=args,argTypes:=tys }) (hob:usesObL (args.toList.map (opAV C.ft s.slot))) {x:ts.Den} {l:List Nat}
  (hx:(asArgs ts ((args.toList.map (opAV C.ft s.slot)).map fun v=>(use v).2)).run s.blk=some (x,l)) (hs:(sh x).safe)
  (hk:∀ y w',(sh x).out y→∀ v,Rel C ((if tr.pure then s else s.frz l).set o.dst (resV tr y)) (a.put o.dst v) w'→K (a.put o.dst v) w'):o.wpIn (rnd C.r) 0 C.P a w K Q:=by
 have hd:∀ c,o.op≠.defer c:=by rw [ho];intro c hc;cases hc
 obtain ⟨args⟩:=args
 have hrun:(execOp a.eval o).run C.P w=.ok (.enter k (args.map a.eval).toArray) w:=by
  simp only [execOp,ho,Sem.run_bind,resolve,Act.eval,Deferred.ofValue,Sem.run_pure,Result.andThen_ok,invoke]
  have:=hf.enter (args.map a.eval).toArray w
  simpa [Act.eval] using this
 obtain ⟨F',f1,hr',f2⟩:=RelK.frzL (asArgs_closed ts hx) hr
 have hargs:RArgs C.P ts F' w (args.map a.eval) x:=by
  refine asArgs_ok hr.blks f1 ts hx f2 (by simp) fun i hi hi'=>?_
  simp only [List.getElem_map]
  have hi2:i<args.length:=by simpa using hi'
  have h1:=usesObL_spec hob i (by simpa using hi2)
  have e1:(args.map (opAV C.ft s.slot)).getD i .undef=opAV C.ft s.slot args[i]:=by simp [List.getD_eq_getElem?_getD,hi2]
  rw [show (List.map (opAV C.ft s.slot) (⟨args⟩:Array Operand).toList)=args.map (opAV C.ft s.slot) from rfl,e1] at h1
  exact use_ok (opAV_ok hr args[i]) h1
 refine oper_call hd hrun (hf.calls F' w _ x hr'.fsz hr'.glob hargs hs) fun e w' ⟨v,y,he,hy,hres,hb⟩=>⟨v,he,hk y w' hy v ?_⟩
 by_cases hp:tr.pure=true
 ·rw [if_pos hp]
  have hg:=hr.grow hb
  refine ⟨κ,_,hg.set hdst (resV_ok ?_)⟩
  obtain ⟨vs,q1,q2⟩:=hres
  exact ⟨vs,q1,RArgs_pure hp q2⟩
 ·rw [if_neg hp]
  have hg:=hr'.grow hb
  exact ⟨κ,_,hg.set hdst (resV_ok hres)⟩
theorem ok_callF (hΦ:CtrOk C.P Φ) {k:FuncId} {args:Array Operand} {tys:Array TypeId} (hdst:∀ i,o.dst=some i→i<C.nt) (ho:o.op=.call { callee:=.value (.func k),args:=args,argTypes:=tys }) (h:(opV0 C.ft T Φ (opAV C.ft s.slot) o).run s.blk=some res):OpOk C o s res:=by
 simp only [opV0,ho,callV,callFV] at h
 split at h
 ·rename_i c hc
  simp only [Rd.run_bindO,Option.bind_eq_some_iff,Rd.run_bind,Rd.run_ret,Option.some.injEq] at h
  obtain ⟨⟨x,l⟩,hx,rfl⟩:=h
  intro a w κ F Q hr hob hpre
  refine call_ok hr (hΦ k c hc) hdst ho hob hx hpre fun y w' hy v hrel=>?_
  have hy:y=c.g x:=hy
  subst hy
  have e:∀ (r:Rd (List (Nat×ABlk))),r=(if c.tr.pure then .ret [] else frzB l)→s.setBs (r.run s.blk)=(if c.tr.pure then s else s.frz l):=by
   intro r hr
   subst hr
   split
   ·rfl
   ·exact setBs_frz s l
  simp only [AState.app]
  rw [e _ rfl]
  exact hrel
 ·cases h
theorem elemsD_ok {P:Program} {H:Nat→ABlk} {κ:Nat→KB} {F F':Nat→Prop} {w:World} (hB:∀ b,HB P H κ F w b) (hF:∀ r,F r→F' r) {e:Ty} {zero:List Value} (hz:RC P e F' w zero e.dflt) {ps:List (Nat×AV)} {qs:List (Nat×Value)} (hlen:ps.length=qs.length)
  (hall:∀ i (h:i<ps.length) (h':i<qs.length),ps[i].1=qs[i].1∧RA P H κ F w ps[i].2 qs[i].2):∀ (n i:Nat) {xs:List e.Den} {l:List Nat},(elemsD e ps i n).run H=some (xs,l)→
  FzIn H κ F' l→xs.length=n∧∀ j (h:j<xs.length),∃ ds,RC P e F' w ds xs[j]∧(match qs.find? (fun p=>p.1 == i+j) with | some q=>ds=q.2.cells.toList | none=>ds=zero):=by
 have find:∀ (ps:List (Nat×AV)) (qs:List (Nat×Value)),ps.length=qs.length→(∀ i (h:i<ps.length) (h':i<qs.length),ps[i].1=qs[i].1∧RA P H κ F w ps[i].2 qs[i].2)→∀ i,
   (ps.find? (fun p=>p.1 == i)=none∧qs.find? (fun p=>p.1 == i)=none)∨∃ p q,ps.find? (fun p=>p.1 == i)=some p∧qs.find? (fun p=>p.1 == i)=some q∧RA P H κ F w p.2 q.2:=by
  intro ps
  induction ps with
  | nil=>intro qs hl _ i;cases qs with | nil=>exact .inl ⟨rfl,rfl⟩ | cons _ _=>simp at hl
  | cons p ps ih=>
   intro qs hl h i
   cases qs with
   | nil=>simp at hl
   | cons q qs=>
    have h0:=h 0 (by simp) (by simp)
    simp only [List.getElem_cons_zero] at h0
    by_cases hp:p.1=i
    ·refine .inr ⟨p,q,?_,?_,h0.2⟩
     ·simp [hp]
     ·simp [←h0.1,hp]
    ·have hq:q.1≠i:=by rw [←h0.1];exact hp
     have:=ih qs (by simpa using hl) (fun j hj hj'=>by have:=h (j+1) (by simpa using hj) (by simpa using hj');simpa using this) i
     simpa [List.find?_cons,hp,hq] using this
 intro n
 induction n with
 | zero=>intro i xs l h _;cases h;exact ⟨rfl,fun j hj=>by simp at hj⟩
 | succ n ih=>
  intro i xs l h hl
  simp only [elemsD,Rd.run_bindO,Option.bind_eq_some_iff,Rd.run_ret,Option.some.injEq,Prod.mk.injEq] at h
  obtain ⟨⟨x,m⟩,h1,⟨ys,m'⟩,h2,rfl,rfl⟩:=h
  obtain ⟨k1,k2⟩:=ih (i+1) h2 hl.right
  refine ⟨by simp [k1],fun j hj=>?_⟩
  cases j with
  | zero=>
   rcases find ps qs hlen hall i with ⟨f1,f2⟩ | ⟨p,q,f1,f2,f3⟩
   ·rw [f1] at h1
    simp only [Rd.run_ret,Option.some.injEq,Prod.mk.injEq] at h1
    obtain ⟨rfl,rfl⟩:=h1
    refine ⟨zero,hz,?_⟩
    rw [Nat.add_zero,f2]
   ·rw [f1] at h1
    refine ⟨q.2.cells.toList,(asDen_ok hB hF h1 hl.left f3).2,?_⟩
    rw [Nat.add_zero,f2]
  | succ j=>
   obtain ⟨ds,d1,d2⟩:=k2 j (by simpa using hj)
   refine ⟨ds,by simpa using d1,?_⟩
   rw [show i+(j+1)=i+1+j from by omega]
   exact d2
end
end Go.Fer
namespace Go.Fer
open Go.RowKit
def ckFields (d:Nat) (em:Bool) (xs:Array Value):List Field→Sem Unit
 | []=>pure ()
 | f::fs=>
  if f.name ≠ "_" then do
   let a ←part f.type xs f.offset
   Instr.checkKey em d f.type a
   ckFields d em xs fs
  else ckFields d em xs fs
theorem run_checkKey_struct {P:Program} (w:World) (em:Bool) (d:Nat) (t:TypeId) (xs:Array Value) (ht:P.underlying t=some (.struct (P.fieldsOf t))) :
  (Instr.checkKey em (d+1) t (.agg xs)).run P w=(ckFields d em xs (P.fieldsOf t).toList).run P w:=by
 simp only [Instr.checkKey,Sem.run_bind,run_underlying' ht,Result.andThen_ok]
 rw [←Array.forIn_toList]
 generalize (P.fieldsOf t).toList=fs
 clear ht
 induction fs generalizing w with
 | nil=>simp [ckFields]
 | cons f fs ih=>
  simp only [List.forIn_cons,ckFields,Sem.run_bind,Sem.run_ite]
  split
  ·generalize (part f.type xs f.offset).run P w=r1
   cases r1 with
   | ok a w1=>
    simp only [Result.andThen_ok]
    generalize (Instr.checkKey em d f.type a).run P w1=r2
    cases r2 with
    | ok b w2=>
     simp only [Result.andThen_ok,Sem.run_pure]
     exact ih w2
    | halt x w2=>simp [Result.andThen]
   | halt x w1=>simp [Result.andThen]
  ·simp only [Sem.run_pure,Result.andThen_ok]
   exact ih w
theorem checkKey_ok {P:Program} {F:Nat→Prop} {w:World} {em:Bool}:∀ (t:Ty) (d:Nat),t.comparable=true→t.nest≤d→
  (∀ {id:TypeId} {v:Value} {x:t.Den},TyIs P t id→RV P t F w v x→(Instr.checkKey em d id v).run P w=.ok () w)∧
  (∀ {l:List Field} {off:Nat} {xs:Array Value} {p c q:List Value} {x:t.Den},tyChk P t (.inr (l,off))=true→xs.toList=p++(c++q)→p.length=off→RC P t F w c x→
   (ckFields d em xs l).run P w=.ok () w):=by
 intro t
 induction t with
 | bool=>
  intro d _ hd
  refine ⟨fun {id v x} h h1=>?_,fun h=>by simp [tyChk] at h⟩
  rw [RV_bool.1 h1]
  obtain ⟨d,rfl⟩:∃ e,d=e+1:=⟨d - 1,by simp only [Ty.nest] at hd;omega⟩
  unfold TyIs at h
  simp only [tyChk,Bool.and_eq_true] at h
  obtain ⟨_,h⟩:=h
  split at h
  ·rename_i hu;simp [Instr.checkKey,run_underlying' hu]
  ·cases h
 | int k=>
  intro d _ hd
  refine ⟨fun {id v x} h h1=>?_,fun h=>by simp [tyChk] at h⟩
  rw [(RV_int.1 h1).1]
  obtain ⟨d,rfl⟩:∃ e,d=e+1:=⟨d - 1,by simp only [Ty.nest] at hd;omega⟩
  simp [Instr.checkKey,run_underlying' (TyIs.int h)]
 | str=>
  intro d _ hd
  refine ⟨fun {id v x} h h1=>?_,fun h=>by simp [tyChk] at h⟩
  rw [(RV_str.1 h1).1]
  obtain ⟨d,rfl⟩:∃ e,d=e+1:=⟨d - 1,by simp only [Ty.nest] at hd;omega⟩
  simp [Instr.checkKey,run_underlying' (TyIs.str h)]
 | unit=>intro d h;cases h
 | slice e _=>intro d h;cases h
 | array n e _=>intro d h;cases h
 | ptr e _=>intro d h;cases h
 | map k v _ _=>intro d h;cases h
 | fn a b _ _=>intro d h;cases h
 | it a _=>intro d h;cases h
 | raws e _=>intro d h;cases h
 | prod a b iha ihb=>
  intro d hc hd
  simp only [Ty.comparable,Bool.and_eq_true] at hc
  simp only [Ty.nest] at hd
  have ia:=iha d hc.1 (by omega)
  have ib:=ihb d hc.2 (by omega)
  refine ⟨fun h=>by unfold TyIs at h;simp [tyChk] at h,?_⟩
  intro l off xs p c q x h hx hp hcx
  simp only [RC] at hcx
  obtain ⟨c1,c2,rfl,k1,k2⟩:=hcx
  have l1:=RC_len a k1
  have step : ∀ (f : Field) (rest : List Field), f.offset = off → TyIs P a f.type → f.name ≠ "_" → (ckFields d em xs (f :: rest)).run P w = (ckFields d em xs rest).run P w := by
   intro f rest ho hf hn
   obtain ⟨v,r1,r2⟩:=part_ok (cs:=xs) (p:=p) (c:=c1) (q:=c2++q) hf (by rw [hx];simp) k1
   simp only [ckFields,hn,ne_eq,not_false_eq_true,if_true,Sem.run_bind]
   rw [ho,←hp,r1,Result.andThen_ok,ia.1 hf r2,Result.andThen_ok]
  match l,h with
  | [],h=>simp only [tyChk,Bool.false_eq_true] at h
  | [f],h=>simp only [tyChk,Bool.false_eq_true] at h
  | [f,g],h=>
   simp only [tyChk,Bool.and_eq_true,beq_iff_eq,bne_iff_ne,ne_eq] at h
   obtain ⟨⟨⟨⟨h1,h2⟩,h3⟩,h4⟩,⟨⟨⟨h5,h6⟩,h7⟩,h8⟩⟩:=h
   rw [step f [g] h1 h2 h4]
   obtain ⟨v,r1,r2⟩:=part_ok (cs:=xs) (p:=p++c1) (c:=c2) (q:=q) h6 (by rw [hx];simp) k2
   have e1:(p++c1).length=g.offset:=by simp;omega
   rw [e1] at r1
   simp only [ckFields,h8,ne_eq,not_false_eq_true,if_true,Sem.run_bind,r1,Result.andThen_ok,ib.1 h6 r2,Sem.run_pure]
  | f::g::i::l,h=>
   simp only [tyChk,Bool.and_eq_true,beq_iff_eq,bne_iff_ne,ne_eq] at h
   obtain ⟨⟨⟨⟨h1,h2⟩,h3⟩,h4⟩,h5⟩:=h
   rw [step f _ h1 h2 h4,ib.2 h5 (p:=p++c1) (c:=c2) (q:=q) (by rw [hx];simp) (by simp;omega) k2]
 | st t ih=>
  intro d hc hd
  simp only [Ty.nest] at hd
  obtain ⟨d,rfl⟩:∃ e,d=e+1:=⟨d - 1,by omega⟩
  refine ⟨fun {id v x} h h1=>?_,fun h=>by simp [tyChk] at h⟩
  have i:=ih d hc (by omega)
  obtain ⟨e1,e2,e3,e4⟩:=h.eqs
  obtain ⟨⟨xs,rfl,hxs⟩,hcx⟩:=h1
  simp only [Value.cells,RC] at hcx
  rw [run_checkKey_struct w em d id xs e4]
  rcases e3 with e3 | ⟨f,e3,e5,e6,e7⟩ | ⟨rfl,e3⟩
  ·exact i.2 e3 (p:=[]) (c:=xs.toList) (q:=[]) (by simp) rfl hcx
  ·rw [e3]
   obtain ⟨v,r1,r2⟩:=part_ok (cs:=xs) (p:=[]) (c:=xs.toList) (q:=[]) e6 (by simp) hcx
   simp only [List.length_nil] at r1
   simp only [ckFields,e7,ne_eq,not_false_eq_true,if_true,Sem.run_bind,e5,r1,Result.andThen_ok,i.1 e6 r2,Sem.run_pure]
  ·cases hc
theorem eqDen_iff:∀ (t:Ty),t.comparable=true→∀ (x y:t.Den),eqDen t x y=true↔x=y:=by
 intro t
 induction t with
 | bool=>intro _ x y;simp [eqDen]
 | int k=>intro _ x y;simp [eqDen]
 | str=>intro _ x y;simp [eqDen]
 | st t ih=>intro h x y;exact ih h x y
 | prod a b iha ihb=>
  intro h x y
  simp only [Ty.comparable,Bool.and_eq_true] at h
  simp only [eqDen,Bool.and_eq_true,iha h.1,ihb h.2]
  exact ⟨fun ⟨h1,h2⟩=>Prod.ext h1 h2,fun h=>h ▸ ⟨rfl,rfl⟩⟩
 | _=>intro h;cases h
def Found {k:Ty} {β:Type} (x:k.Den) (es:List MapEntry) (xs:List (k.Den×β)) (i:Nat) (r:Option (Nat×Value)):Prop:=
 (r=none∧∀ p∈xs,eqDen k x p.1=false)∨∃ j e p,es[j]?=some e∧xs[j]?=some p∧eqDen k x p.1=true∧(∀ j' q,j'<j→xs[j']?=some q→eqDen k x q.1=false)∧r=some (i+j,e.val)
theorem Found.next {k:Ty} {β:Type} {x:k.Den} {e:MapEntry} {es:List MapEntry} {p:k.Den×β} {xs:List (k.Den×β)} {i:Nat} {r:Option (Nat×Value)} (h:Found x es xs (i+1) r) (hp:eqDen k x p.1=false):Found x (e::es) (p::xs) i r:=by
 rcases h with ⟨h1,h2⟩ | ⟨j,e',p',h1,h2,h3,h4,h5⟩
 ·exact .inl ⟨h1,fun q hq=>by
   rcases List.mem_cons.1 hq with rfl | hq
   ·exact hp
   ·exact h2 q hq⟩
 ·refine .inr ⟨j+1,e',p',by simpa using h1,by simpa using h2,h3,fun j' q hj' hq=>?_,by rw [h5];congr 2;omega⟩
  cases j' with
  | zero=>simp at hq;rw [←hq];exact hp
  | succ j'=>exact h4 j' q (by omega) (by simpa using hq)
theorem findAsking_ok {P:Program} {F:Nat→Prop} {w:World} {k:Ty} {β:Type} (hc:k.comparable=true) (hn:k.nest≤10000) {kid:TypeId} (hk:TyIs P k kid) {kv:Value} {x:k.Den} (hx:RV P k F w kv x):∀ (es:List MapEntry) (xs:List (k.Den×β)) (i:Nat),
  es.length=xs.length→(∀ (j:Nat) (e:MapEntry) (p:k.Den×β),es[j]?=some e→xs[j]?=some p→RV P k F w e.key p.1)→∃ r,(Instr.findAsking kid kv es i).run P w=.ok r w∧Found x es xs i r
 | [],[],i,_,_=>⟨none,rfl,.inl ⟨rfl,fun p hp=>by cases hp⟩⟩
 | e::es,p::xs,i,hl,h=>by
  have h0:=h 0 e p rfl rfl
  have he:=(equal_ok k 10000 hc hn).1 hk hx h0
  obtain ⟨r,r1,r2⟩:=findAsking_ok (β:=β) hc hn hk hx es xs (i+1) (by simpa using hl) fun j e' p' h1 h2=>h (j+1) e' p' (by simpa using h1) (by simpa using h2)
  cases hq:eqDen k x p.1 with
  | true=>
   refine ⟨some (i,e.val),by simp [Instr.findAsking,Op.equal,Op.maxDepth,he,hq],.inr ⟨0,e,p,rfl,rfl,hq,fun j' q hj'=>by omega,rfl⟩⟩
  | false=>exact ⟨r,by simp [Instr.findAsking,Op.equal,Op.maxDepth,he,hq,r1],r2.next hq⟩
theorem sameNow_ok {P:Program} {F:Nat→Prop} {w:World} {k:Ty} {kid:TypeId} (hk:TyIs P k kid) {d:TypeDesc} (hd:P.underlying kid=some d) {u v:Value} {x y:k.Den} (hu:RV P k F w u x) (hv:RV P k F w v y) {b:Bool} (h:Instr.sameNow d u v=some b):b=eqDen k x y:=by
 cases k with
 | bool=>
  rw [RV_bool.1 hu,RV_bool.1 hv] at h
  cases d<;>simp only [Instr.sameNow,Option.some.injEq,reduceCtorEq] at h
  rw [←h];rfl
 | int k=>
  rw [(RV_int.1 hu).1,(RV_int.1 hv).1] at h
  cases d<;>simp only [Instr.sameNow,if_true,Option.some.injEq,reduceCtorEq] at h
  rw [←h]
  simp only [eqDen]
  exact Bool.beq_eq_decide_eq _ _
 | str=>
  rw [(RV_str.1 hu).1,(RV_str.1 hv).1] at h
  cases d<;>simp only [Instr.sameNow,Option.some.injEq,reduceCtorEq] at h
  rw [←h,beq_toListBytes,ByteArray.toList_eq,ByteArray.toList_eq]
  simp only [eqDen]
  exact Bool.beq_eq_decide_eq _ _
 | st t=>
  obtain ⟨⟨us,rfl,_⟩,_⟩:=hu
  cases d<;>cases v<;>simp [Instr.sameNow] at h
 | array n t=>
  obtain ⟨⟨us,rfl,_⟩,_⟩:=hu
  cases d<;>cases v<;>simp [Instr.sameNow] at h
 | unit=>exact hu.1.elim
 | prod a b=>exact hu.1.elim
 | slice e=>
  obtain ⟨_,a,cap,e1,_⟩:=(RV_leaf rfl).1 hu
  obtain rfl:=(List.cons.inj e1).1
  cases d<;>simp [Instr.sameNow] at h
 | ptr e=>
  obtain ⟨_,hx⟩:=(RV_leaf rfl).1 hu
  rcases hx with ⟨e1,_⟩ | ⟨p,y,ds,e1,_⟩<;>(obtain rfl:=(List.cons.inj e1).1;cases d<;>simp [Instr.sameNow] at h)
 | map k' v'=>
  obtain ⟨_,hx⟩:=(RV_leaf rfl).1 hu
  rcases hx with ⟨e1,_⟩ | ⟨r,es,clk,e1,_⟩<;>(obtain rfl:=(List.cons.inj e1).1;cases d<;>simp [Instr.sameNow] at h)
 | fn a b=>
  obtain ⟨i,z,h1,h2,h3,h4,h5,h6⟩:=infoOk_out hk.info
  unfold TyIs at hk
  simp only [tyChk,Bool.and_eq_true,hd] at hk
  cases d<;>simp [Instr.sameNow] at hk h
 | it a=>
  obtain ⟨i,z,h1,h2,h3,h4,h5,h6⟩:=infoOk_out hk.info
  unfold TyIs at hk
  simp only [tyChk,Bool.and_eq_true,hd] at hk
  cases d<;>simp [Instr.sameNow] at hk h
 | raws e=>
  obtain ⟨_,hx⟩:=(RV_leaf rfl).1 hu
  rcases hx with ⟨e1,_⟩ | ⟨o,c,e1,_⟩<;>(obtain rfl:=(List.cons.inj e1).1;cases d<;>simp [Instr.sameNow] at h)
theorem findNow_ok {P:Program} {F:Nat→Prop} {w:World} {k:Ty} {β:Type} {kid:TypeId} (hk:TyIs P k kid) {d:TypeDesc} (hd:P.underlying kid=some d) {kv:Value} {x:k.Den} (hx:RV P k F w kv x):∀ (es:List MapEntry) (xs:List (k.Den×β)) (i:Nat) {r:Option (Nat×Value)},
  es.length=xs.length→(∀ (j:Nat) (e:MapEntry) (p:k.Den×β),es[j]?=some e→xs[j]?=some p→RV P k F w e.key p.1)→Instr.findNow d kv es i=some r→Found x es xs i r
 | [],[],i,r,_,_,h=>by cases h;exact .inl ⟨rfl,fun p hp=>by cases hp⟩
 | e::es,p::xs,i,r,hl,h,hf=>by
  have h0:=h 0 e p rfl rfl
  simp only [Instr.findNow] at hf
  split at hf
  ·rename_i hs
   have:=sameNow_ok hk hd hx h0 hs
   cases hf
   exact .inr ⟨0,e,p,rfl,rfl,this.symm,fun j' q hj'=>by omega,rfl⟩
  ·rename_i hs
   have:=sameNow_ok hk hd hx h0 hs
   exact (findNow_ok hk hd hx es xs (i+1) (by simpa using hl) (fun j e' p' h1 h2=>h (j+1) e' p' (by simpa using h1) (by simpa using h2)) hf).next this.symm
  ·cases hf
theorem TyIs.und {P:Program} {t:Ty} {id:TypeId} (h:TyIs P t id) (hc:t.comparable=true):∃ d,P.underlying id=some d:=by
 cases t with
 | bool=>
  unfold TyIs at h
  simp only [tyChk,Bool.and_eq_true] at h
  obtain ⟨_,h⟩:=h
  split at h
  ·exact ⟨_,by assumption⟩
  ·cases h
 | int k=>exact ⟨_,TyIs.int h⟩
 | str=>exact ⟨_,TyIs.str h⟩
 | st t=>exact ⟨_,h.eqs.2.2.2⟩
 | prod a b=>unfold TyIs at h;simp [tyChk] at h
 | _=>cases hc
theorem findKey_ok {P:Program} {F:Nat→Prop} {w:World} {k:Ty} {β:Type} (hc:keyOk k=true) {kid:TypeId} (hk:TyIs P k kid) {kv:Value} {x:k.Den} (hx:RV P k F w kv x) {es:List MapEntry} {xs:List (k.Den×β)}
  (hl:es.length=xs.length) (h:∀ (j:Nat) (e:MapEntry) (p:k.Den×β),es[j]?=some e→xs[j]?=some p→RV P k F w e.key p.1):∃ r,(Instr.findKey kid kv es).run P w=.ok r w∧Found x es xs 0 r:=by
 simp only [keyOk,Bool.and_eq_true,decide_eq_true_eq] at hc
 obtain ⟨d,hd⟩:=hk.und hc.1
 simp only [Instr.findKey,Sem.run_bind,run_underlying' hd,Result.andThen_ok]
 cases hn:Instr.findNow d kv es 0 with
 | some r=>exact ⟨r,rfl,findNow_ok hk hd hx es xs 0 hl h hn⟩
 | none=>exact findAsking_ok hc.1 (by omega) hk hx es xs 0 hl h
theorem mget_some {k v:Ty} {es:List (k.Den×v.Den)} {x:k.Den}:∀ {j:Nat} {p:k.Den×v.Den},es[j]?=some p→eqDen k x p.1=true→(∀ j' q,j'<j→es[j']?=some q→eqDen k x q.1=false)→mget es x=some p.2∧∀ y,mset es x y=es.set j (p.1,y):=by
 induction es with
 | nil=>intro j p h;cases h
 | cons q es ih=>
  intro j p h1 h2 h3
  cases j with
  | zero=>
   simp at h1
   subst h1
   exact ⟨by simp [mget,h2],fun y=>by simp [mset,h2]⟩
  | succ j=>
   have h0:=h3 0 q (by omega) rfl
   obtain ⟨k1,k2⟩:=ih (j:=j) (p:=p) (by simpa using h1) h2 fun j' q' hj' hq'=>h3 (j'+1) q' (by omega) (by simpa using hq')
   exact ⟨by simpa [mget,List.find?_cons,h0] using k1,fun y=>by simp [mset,h0,k2 y]⟩
theorem mget_none {k v:Ty} {es:List (k.Den×v.Den)} {x:k.Den} (h:∀ p∈es,eqDen k x p.1=false):mget es x=none∧∀ y,mset es x y=es++[(x,y)]:=by
 induction es with
 | nil=>exact ⟨rfl,fun _=>rfl⟩
 | cons q es ih=>
  have h0:=h q (by simp)
  obtain ⟨k1,k2⟩:=ih fun p hp=>h p (by simp [hp])
  exact ⟨by simpa [mget,List.find?_cons,h0] using k1,fun y=>by simp [mset,h0,k2 y]⟩
section
variable {C:Ctx} {T:Nat→Ty} {Φ:Nat→Option FC} {o:Oper} {s:AState} {res:OpRes}
theorem zero_RV {P:Program} {F:Nat→Prop} {w:World} {v:Ty} {z:Value} (hv:v.isLeaf=true∨v.isAgg=true) (i5:zeroRest v z.cells.toList=some []) (i6:(∃ cs,z=.agg cs)↔v.isAgg=true):RV P v F w z v.dflt:=by
 obtain ⟨c,e,z1,z2⟩:=zeroRest_ok (P:=P) (H:=fun _=>⟨0,.dead⟩) (κ:=fun _=>⟨0,0,0,true⟩) (F:=F) (w:=w) v i5
 rw [List.append_nil] at e
 refine ⟨?_,by rw [e];exact z1⟩
 have hl:=RC_len v z1
 rcases hv with hv | hv
 ·obtain ⟨u,rfl,hu⟩:=leaf_cells hv z1
  have hna:∀ cs,z≠.agg cs:=fun cs hz=>by
   have:=i6.1 ⟨cs,hz⟩
   cases v<;>simp [Ty.isLeaf,Ty.isAgg] at hv this
  have hz:z.cells=#[z]:=by
   cases z<;>first | rfl | exact absurd rfl (hna _)
  cases v<;>simp only [Ty.isLeaf,Bool.false_eq_true] at hv<;>exact hz
 ·obtain ⟨cs,rfl⟩:=i6.2 hv
  have e':cs.toList=c:=e
  cases v<;>simp only [Ty.isAgg,Bool.false_eq_true] at hv
  ·exact ⟨cs,rfl,by rw [←Array.length_toList,e',hl];rfl⟩
  ·exact ⟨cs,rfl,by rw [←Array.length_toList,e',hl];rfl⟩
def EsIs (P:Program) (k v:Ty) (F:Nat→Prop) (w:World) (ms:List MapEntry) (xs:List (k.Den×v.Den)):Prop:=
 ms.length=xs.length∧∀ (j:Nat) (e:MapEntry) (p:k.Den×v.Den),ms[j]?=some e→xs[j]?=some p→RV P k F w e.key p.1∧RV P v F w e.val p.2
theorem MapIs.es {P:Program} {k v:Ty} {F:Nat→Prop} {w:World} {ms:Array MapEntry} {clk:Nat} {xs:List (k.Den×v.Den)} (h:MapIs P k v F w ms clk xs):EsIs P k v F w ms.toList xs:=by
 obtain ⟨h1,h2,h3,h4⟩:=h
 refine ⟨by simpa using h1,fun j e p he hp=>?_⟩
 obtain ⟨hj,rfl⟩:=List.getElem?_eq_some_iff.1 hp
 obtain ⟨hj',rfl⟩:=List.getElem?_eq_some_iff.1 he
 obtain ⟨a,b,c,d,_⟩:=h3 j hj (by simpa using hj')
 exact ⟨⟨a,by simpa using b⟩,c,by simpa using d⟩
theorem mapEs_ok {a:Act} {w:World} {κ:Nat→KB} {F:Nat→Prop} (hr:RelK C s a w κ F) {k v:Ty} {av:AV} {u:Value} {xs:List (k.Den×v.Den)} (h:(mapEs k v av).run s.blk=some xs) (hu:RA C.P s.blk κ F w av u) :
  (u=.map none∧xs=[])∨∃ r ms clk,u=.map (some r)∧w.heap[r]?=some (.map ms clk)∧EsIs C.P k v F w ms.toList xs:=by
 have frz:∀ {xs:List (k.Den×v.Den)},RC C.P (.map k v) F w [u] xs→(u=.map none∧xs=[])∨∃ r ms clk,u=.map (some r)∧w.heap[r]?=some (.map ms clk)∧EsIs C.P k v F w ms.toList xs:=by
  intro xs hx
  rcases hx with ⟨e1,e2⟩ | ⟨r,ms,clk,e1,h1,h2,h3,h4,h5,h6⟩
  ·exact .inl ⟨(List.cons.inj e1).1,e2⟩
  ·exact .inr ⟨r,ms,clk,(List.cons.inj e1).1,h2,MapIs.es ⟨h3,h4,h5,h6⟩⟩
 cases av with
 | val t es=>
  simp only [mapEs,Rd.run_ret] at h
  exact frz ((RV_leaf rfl).1 (cast_RV h hu)).2
 | raw x=>
  simp only [RA] at hu
  subst hu
  have hx:u=.map none∧xs=[]:=by
   unfold mapEs at h
   split at h
   ·rename_i e;cases e
   ·rename_i e
    simp only [Rd.run_ret,Option.some.injEq] at h
    exact ⟨AV.raw.inj e,h.symm⟩
   ·rename_i e;cases e
   ·cases h
  exact .inl hx
 | mapl b g=>
  simp only [mapEs,Rd.run_get,Rd.run_ret] at h
  split at h
  ·rename_i hg
   have hB:=hr.blks b
   unfold HB at hB
   split at h
   ·rename_i k' v' es hb
    obtain ⟨e,rfl⟩:=castDen_some h
    cases e
    rw [hb] at hB
    obtain ⟨ms,clk,h1,h2⟩:=hB
    exact .inr ⟨_,ms,clk,hu.2 hg.symm (by rw [hb];rfl),h1,h2.es⟩
   ·rename_i k' v' es hb
    obtain ⟨e,rfl⟩:=castDen_some h
    cases e
    rw [hb] at hB
    have:=hu.2 hg.symm (by rw [hb];rfl)
    simp only [HBody] at hB
    rw [←this] at hB
    exact frz hB
   ·cases h
  ·cases h
 | _=>cases h
theorem ok_makeMap {ty:TypeId} {r:Option Operand} (hdst:∀ i,o.dst=some i→i<C.nt) (ho:o.op=.makeMap ty r) (h:(opV0 C.ft T Φ (opAV C.ft s.slot) o).run s.blk=some res):OpOk C o s res:=by
 simp only [opV0,ho] at h
 split at h
 ·cases h
 ·rename_i hrn
  have hrn:r=none:=by simpa using hrn
  subst hrn
  split at h
  ·rename_i k v ht
   obtain ⟨b,hd,hk⟩:=newB_some h
   simp only [Option.some.injEq] at hk
   subst hk
   intro a w κ F Q hr _ _
   have hrun:(execOp a.eval o).run C.P w=.ok (.value (.map (some w.heap.size))) (w.alloc (.map #[] 0)):=by
    simp [execOp,ho,Instr.makeMap]
   have h1:=hr.alloc (b:=b) (x:=⟨(s.blk b).gen+1,.mp k v []⟩) (hr.small (hdst b hd)) (Nat.lt_succ_self _) (o:=.map #[] 0) (k:=⟨w.heap.size,0,0,false⟩) rfl fun H κ' _ _ _=>
    ⟨#[],0,heap_alloc_new _ _,rfl,by simp,fun i hi=>by simp at hi,fun i j hi=>by simp at hi⟩
   refine oper_value (by rw [ho];intro c hc;cases hc) hrun ⟨_,F,RelK.set (s:=s.setB b _) h1 hdst ⟨⟨by simp [AState.setB],rfl⟩,fun _ _=>by simp⟩⟩
  ·cases h
theorem ok_lookup (hT:TabOk C.P T) {ty:TypeId} {m x:Operand} {ok:Bool} (hdst:∀ i,o.dst=some i→i<C.nt) (ho:o.op=.lookup ty m x ok) (h:(opV0 C.ft T Φ (opAV C.ft s.slot) o).run s.blk=some res):OpOk C o s res:=by
 simp only [opV0,ho,lookOpV] at h
 split at h
 ·rename_i k v ht
  split at h
  ·rename_i hc
   simp only [Bool.and_eq_true,Bool.or_eq_true] at hc
   obtain ⟨i,j,hi,hik,hiv⟩:=(hT.is ht (by simp)).mp
   simp only [Rd.run_bindO,Option.bind_eq_some_iff,okRes,Rd.run_ret,Option.some.injEq] at h
   obtain ⟨es,hes,⟨y,l⟩,hy,rfl⟩:=h
   refine OpOk.pure (by rw [ho];intro c hc;cases hc) hdst fun a w κ F hr hob _=>?_
   have hm:=use_op hr m rfl hob.1
   have hx:=anyDen hr hy (use_op hr x rfl hob.2)
   obtain ⟨inf,z,i1,i2,i3,i4,i5,i6⟩:=infoOk_out hiv.info
   have hzero:RV C.P v F w z v.dflt:=zero_RV hc.2 i5 i6
   have fin:∀ (u:Value) (q:Option v.Den),RV C.P v F w u (q.getD v.dflt)→RA C.P s.blk κ F w (lookRes v q ok) (if ok=true then .tuple #[u,.bool q.isSome] else u):=by
    intro u q h3
    cases ok with
    | true=>
     refine ⟨[u,.bool q.isSome],rfl,rfl,fun i hi=>?_⟩
     match i,hi with
     | 0,_=>exact h3
     | 1,_=>exact RV_bool.2 rfl
    | false=>exact h3
   have kt:keyOk k=true:=hc.1
   have kc:k.comparable=true∧k.nest≤100:=by simpa [keyOk] using kt
   rcases mapEs_ok hr hes hm with ⟨hu,hn⟩ | ⟨r,ms,clk,hu,hw,hE⟩
   ·subst hn
    have hck:=(checkKey_ok (em:=true) k 10000 kc.1 (by omega)).1 hik hx
    obtain ⟨f,f1,f2⟩:=findKey_ok (β:=v.Den) (xs:=[]) (es:=[]) kt hik hx rfl (fun j e p h=>by cases h)
    rcases f2 with ⟨rfl,_⟩ | ⟨j,e,p,h1,_⟩
    ·refine ⟨_,?_,fin z none hzero⟩
     simp only [execOp,ho,hu,Instr.lookup,Sem.run_bind,run_underlying' hi,Result.andThen_ok,Sem.run_pure]
     simp only [show (#[]:Array MapEntry).isEmpty=true from rfl,hck,Result.andThen_ok,f1]
     cases ok<;>simp [run_zeroValue' i1 i4]
    ·cases h1
   ·have hck:=(checkKey_ok (em:=ms.isEmpty) k 10000 kc.1 (by omega)).1 hik hx
    obtain ⟨f,f1,f2⟩:=findKey_ok (β:=v.Den) (xs:=es) (es:=ms.toList) kt hik hx hE.1 (fun j e p h1 h2=>by
     have:=(hE.2 j e p h1 h2).1
     exact ⟨this.1,RC_mono k (fun _ _=>trivial) (Ext.refl F w) this.2⟩)
    have hget:(getObj r).run C.P w=.ok (.map ms clk) w:=by simp [getObj,Sem.run,hw]
    rcases f2 with ⟨rfl,hne⟩ | ⟨j,e,p,h1,h2,h3,h4,rfl⟩
    ·refine ⟨_,?_,by rw [(mget_none hne).1];exact fin z none hzero⟩
     simp only [execOp,ho,hu,Instr.lookup,Sem.run_bind,run_underlying' hi,Result.andThen_ok,Sem.run_pure,hget,hck,f1,run_zeroValue' i1 i4]
     cases ok<;>rfl
    ·refine ⟨_,?_,by rw [(mget_some h2 h3 h4).1];exact fin e.val (some p.2) (hE.2 j e p h1 h2).2⟩
     simp only [execOp,ho,hu,Instr.lookup,Sem.run_bind,run_underlying' hi,Result.andThen_ok,Sem.run_pure,hget,hck,f1]
     cases ok<;>rfl
  ·cases h
 ·cases h
theorem keyStays_run (P:Program) (w:World) (old new:Value):∃ k' w',(Instr.keyThatStays old new).run P w=.ok k' w'∧(k'=new∨k'=old)∧(w'=w∨w'=w.drew):=by
 unfold Instr.keyThatStays
 split
 ·exact ⟨new,w,rfl,.inl rfl,.inl rfl⟩
 ·have hf : (Question.extern "map.whichKeyStays" 2).forced = false := rfl
  simp only [Sem.run_bind,run_choose,hf,Bool.false_eq_true,if_false,Result.andThen_ok]
  split
  ·exact ⟨new,_,rfl,.inl rfl,.inr rfl⟩
  ·exact ⟨old,_,rfl,.inr rfl,.inr rfl⟩
theorem setObj_run {P:Program} {w:World} {r:Nat} {es:Array MapEntry} {clk:Nat} (h:w.heap[r]?=some (.map es clk)) (o:Obj):(setObj r o).run P w=.ok () { w with heap:=w.heap.setIfInBounds r o }:=by
 simp [setObj,Sem.run,h]
theorem ok_mapUpdate (hT:TabOk C.P T) {ty:TypeId} {m x y:Operand} (hdn:o.dst=none) (ho:o.op=.mapUpdate ty m x y∨o.op=.insert ty m x y) (h:(opV0 C.ft T Φ (opAV C.ft s.slot) o).run s.blk=some res):OpOk C o s res:=by
 have hd:∀ c,o.op≠.defer c:=by rcases ho with ho | ho<;>(rw [ho];intro c hc;cases hc)
 have hop:∀ ρ,opV0 C.ft T Φ ρ o=mapUpV T ρ ty m x y:=fun ρ=>by rcases ho with ho | ho<;>simp only [opV0,ho]
 have hex:∀ ρ w,(execOp ρ o).run C.P w=(do Instr.mapUpdate ty (ρ m) (ρ x) (ρ y);pure .skip:Sem Next).run C.P w:=fun ρ w=>by rcases ho with ho | ho<;>simp only [execOp,ho]
 rw [hop] at h
 simp only [mapUpV] at h
 split at h
 ·rename_i k v ht
  obtain ⟨kid,vid,hi,hik,hiv⟩:=(hT.is ht (by simp)).mp
  split at h
  ·rename_i hc
   split at h
   ·rename_i b g hme
    simp only [Rd.run_bindO,Option.bind_eq_some_iff,Rd.run_bind,Rd.run_get,Rd.run_ret] at h
    obtain ⟨⟨x',lx⟩,hx,⟨y',ly⟩,hy,h⟩:=h
    split at h
    ·rename_i hg
     obtain ⟨hg,hnb⟩:=hg
     have hnb:b ∉ lx++ly:=by
      have:=hnb
      simp only [List.contains_eq_mem,Bool.not_eq_true',decide_eq_false_iff_not] at this
      exact this
     split at h
     ·rename_i k' v' es hb
      simp only [Option.map_eq_some_iff] at h
      obtain ⟨es',hes,rfl⟩:=h
      obtain ⟨e,rfl⟩:=castDen_some hes
      cases e
      intro a w κ F Q hr hob _
      obtain ⟨F',f1,hr',f2⟩:=RelK.frzL ((asDen_closed hx).append (asDen_closed hy)) hr
      have hm:RA C.P s.blk κ F w (use (opAV C.ft s.slot m)).2 (a.eval m):=use_op hr m rfl hob.1
      rw [hme] at hm
      have hmv:=hm.2 hg.symm (by rw [hb];rfl)
      have hkx:=asDen_ok hr.blks f1 hx f2.left (use_op hr x rfl hob.2.1)
      have hvy:=asDen_ok hr.blks f1 hy f2.right (use_op hr y rfl hob.2.2)
      have hbf:(s.frz (lx++ly)).blk b=s.blk b:=by simp only [AState.frz];rw [if_neg hnb]
      have hB:=hr'.blks b
      unfold HB at hB
      rw [hbf,hb] at hB
      obtain ⟨ms,clk,hw,hM⟩:=hB
      have kc:k.comparable=true∧k.nest≤100:=by simpa [keyOk] using hc
      have hck:=(checkKey_ok (em:=false) k 10000 kc.1 (by omega)).1 hik hkx
      have hE:=hM.es
      obtain ⟨f,q1,q2⟩:=findKey_ok (β:=v.Den) (xs:=es) (es:=ms.toList) hc hik hkx hE.1 (fun j e p h1 h2=>(hE.2 j e p h1 h2).1)
      have hget:(getObj (κ b).blk).run C.P w=.ok (.map ms clk) w:=by simp [getObj,Sem.run,hw]
      have hset:s.setBs ((frzB (lx++ly)).run s.blk++[(b,⟨(s.blk b).gen,.mp k v (mset es x' y')⟩)])=(s.frz (lx++ly)).setB b ⟨(s.blk b).gen,.mp k v (mset es x' y')⟩:=by
       rw [setBs_snoc,setBs_frz]
      have hl2:Later (s.frz (lx++ly)).blk κ (fun i=>if i=b then (⟨(s.blk b).gen,.mp k v (mset es x' y')⟩:ABlk) else (s.frz (lx++ly)).blk i) κ:=
       later_same (by rw [hbf]) (fun h=>by cases h) (fun h=>by cases h) (fun _=>by rw [hbf,hb];rfl) (fun h=>by cases h)
      obtain ⟨ksz,knd,kent,kborn⟩:=hM
      have done:∀ (w1:World) (ms':Array MapEntry) (clk':Nat),(w1=w∨w1=w.drew)→
        (execOp a.eval o).run C.P w=.ok .skip { w1 with heap:=w1.heap.setIfInBounds (κ b).blk (.map ms' clk') }→
        (∀ {w'},Ext F' w w'→MapIs C.P k v F' w' ms' clk' (mset es x' y'))→
        o.wpIn (rnd C.r) 0 C.P a w (fun a' w'=>Rel C (s.app o.dst ⟨(use (opAV C.ft s.slot m)).1∧(use (opAV C.ft s.slot x)).1∧(use (opAV C.ft s.slot y)).1,True,.undef,(frzB (lx++ly)).run s.blk++[(b,⟨(s.blk b).gen,.mp k v (mset es x' y')⟩)]⟩) a' w') Q:=by
       intro w1 ms' clk' hw1 hrun hmi
       have hh:w1.heap=w.heap:=by rcases hw1 with rfl | rfl<;>rfl
       have hcm:Calm w w1:=by rcases hw1 with rfl | rfl<;>exact ⟨rfl,rfl,rfl⟩
       refine oper_skip hd hrun ⟨κ,F',?_⟩
       simp only [AState.app]
       rw [hset,hdn]
       refine hr'.write (b:=b) (x:=⟨(s.blk b).gen,.mp k v (mset es x' y')⟩) (by rw [hbf,hb];rfl) rfl hl2 (fun h=>by cases h) (fun _=>by rw [hbf,hb];rfl) (fun r hrb=>?_) (by simp [hh]) ⟨hcm.os,hcm.tape,hcm.output⟩ fun H _ _ he=>?_
       ·simp only [hh]
        exact Array.getElem?_setIfInBounds_ne (Ne.symm hrb)
       ·have hlt:(κ b).blk<w.heap.size:=(Array.getElem?_eq_some_iff.1 hw).1
        exact ⟨ms',clk',by simp [hh,hlt],hmi he⟩
      rcases q2 with ⟨rfl,hne⟩ | ⟨j,e,p,h1,h2,h3,h4,rfl⟩
      ·refine done w (ms.push { key:=a.eval x,val:=a.eval y,born:=clk }) (clk+1) (.inl rfl) ?_ fun {w'} he=>?_
       ·rw [hex]
        simp only [hmv,Instr.mapUpdate,Sem.run_bind,run_underlying' hi,Result.andThen_ok,hget,hck,q1,setObj_run hw,Sem.run_pure]
       ·rw [(mget_none hne).2]
        refine ⟨by simp [ksz],?_,fun i hi hi'=>?_,fun i j hi hj e=>?_⟩
        ·rw [List.map_append,List.nodup_append]
         refine ⟨knd,by simp,fun q hq q' hq'=>?_⟩
         obtain ⟨p,hp,rfl⟩:=List.mem_map.1 hq
         simp only [List.map_cons,List.map_nil,List.mem_singleton] at hq'
         subst hq'
         intro e
         have:=hne p hp
         rw [e,(eqDen_iff k kc.1 _ _).2 rfl] at this
         cases this
        ·by_cases hil:i<es.length
         ·obtain ⟨k1,k2,k3,k4,k5⟩:=kent i hil (by omega)
          have e1:(es++[(x',y')])[i]=es[i]:=List.getElem_append_left hil
          have e2:(ms.push { key:=a.eval x,val:=a.eval y,born:=clk })[i]=ms[i]'(by omega):=Array.getElem_push_lt (by omega)
          rw [e1,e2]
          exact ⟨k1,RC_mono k (fun _ h=>h) he k2,k3,RC_mono v (fun _ h=>h) he k4,by omega⟩
         ·have hie:i=es.length:=by simp at hi;omega
          subst hie
          have e1:(es++[(x',y')])[es.length]=(x',y'):=by simp
          have e2:(ms.push { key:=a.eval x,val:=a.eval y,born:=clk })[es.length]={ key:=a.eval x,val:=a.eval y,born:=clk }:=by
           simp only [←ksz,Array.getElem_push_eq]
          rw [e1,e2]
          exact ⟨hkx.1,RC_mono k (fun _ h=>h) he hkx.2,hvy.1,RC_mono v (fun _ h=>h) he hvy.2,by simp⟩
        ·have born:∀ i (h:i<(ms.push { key:=a.eval x,val:=a.eval y,born:=clk }).size),(∃ h':i<ms.size,(ms.push { key:=a.eval x,val:=a.eval y,born:=clk })[i]=ms[i])∨(i=ms.size∧((ms.push { key:=a.eval x,val:=a.eval y,born:=clk })[i]).born=clk):=by
          intro i h
          by_cases hil:i<ms.size
          ·exact .inl ⟨hil,Array.getElem_push_lt hil⟩
          ·have:i=ms.size:=by simp at h;omega
           subst this
           exact .inr ⟨rfl,by simp⟩
         rcases born i hi with ⟨a1,a2⟩ | ⟨a1,a2⟩<;>rcases born j hj with ⟨b1,b2⟩ | ⟨b1,b2⟩
         ·rw [a2,b2] at e;exact kborn i j a1 b1 e
         ·rw [a2,b2] at e
          have:=(kent i (by omega) a1).2.2.2.2
          omega
         ·rw [a2,b2] at e
          have:=(kent j (by omega) b1).2.2.2.2
          omega
         ·omega
      ·have hj:j<es.length:=(List.getElem?_eq_some_iff.1 h2).1
       have hjm:j<ms.size:=by omega
       have hej:ms[j]=e:=by
        have:=(List.getElem?_eq_some_iff.1 h1).2
        simpa using this
       have hpj:es[j]=p:=(List.getElem?_eq_some_iff.1 h2).2
       have hxp:x'=p.1:=(eqDen_iff k kc.1 _ _).1 h3
       obtain ⟨kk,w1,r1,r2,r3⟩:=keyStays_run C.P w e.key (a.eval x)
       have hw1:w1.heap[(κ b).blk]?=some (.map ms clk):=by rcases r3 with rfl | rfl<;>exact hw
       refine done w1 (ms.modify j fun e=>{ e with key:=kk,val:=a.eval y }) clk r3 ?_ fun {w'} he=>?_
       ·rw [hex]
        rw [Nat.zero_add] at q1
        simp only [hmv,Instr.mapUpdate,Sem.run_bind,run_underlying' hi,Result.andThen_ok,hget,hck,q1]
        have hold:((ms[j]?).map (·.key)).getD (a.eval x)=e.key:=by
         rw [Array.getElem?_eq_getElem hjm,hej];rfl
        rw [hold,r1]
        simp only [Result.andThen_ok,setObj_run hw1,Sem.run_pure]
       ·rw [(mget_some h2 h3 h4).2]
        refine ⟨by simp [ksz],?_,fun i hi hi'=>?_,fun i j' hi hj' e'=>?_⟩
        ·have:(es.set j (p.1,y')).map (·.1)=es.map (·.1):=by
          apply List.ext_getElem?
          intro n
          simp only [List.getElem?_map,List.getElem?_set]
          split
          ·rename_i hjn
           subst hjn
           simp [hj,hpj]
          ·rfl
         rw [this]
         exact knd
        ·have hil:i<es.length:=by simpa using hi
         have him:i<ms.size:=by omega
         obtain ⟨k1,k2,k3,k4,k5⟩:=kent i hil him
         by_cases hij:j=i
         ·subst hij
          have e1:(es.set j (p.1,y'))[j]=(p.1,y'):=by simp
          have e2:(ms.modify j fun e=>{ e with key:=kk,val:=a.eval y })[j]={ key:=kk,val:=a.eval y,born:=ms[j].born }:=by simp [Array.getElem_modify]
          rw [e1,e2]
          have hkk:RV C.P k F' w kk p.1:=by
           rcases r2 with rfl | rfl
           ·rw [←hxp];exact hkx
           ·rw [←hej,←hpj];exact ⟨k1,k2⟩
          exact ⟨hkk.1,RC_mono k (fun _ h=>h) he hkk.2,hvy.1,RC_mono v (fun _ h=>h) he hvy.2,k5⟩
         ·have e1:(es.set j (p.1,y'))[i]=es[i]:=by simp [hij]
          have e2:(ms.modify j fun e=>{ e with key:=kk,val:=a.eval y })[i]=ms[i]:=by simp [Array.getElem_modify,hij]
          rw [e1,e2]
          exact ⟨k1,RC_mono k (fun _ h=>h) he k2,k3,RC_mono v (fun _ h=>h) he k4,k5⟩
        ·have born:∀ i (h:i<(ms.modify j fun e=>{ e with key:=kk,val:=a.eval y }).size),((ms.modify j fun e=>{ e with key:=kk,val:=a.eval y })[i]).born=(ms[i]'(by simpa using h)).born:=by
          intro i h
          simp only [Array.getElem_modify]
          split<;>rfl
         rw [born i hi,born j' hj'] at e'
         exact kborn i j' (by simpa using hi) (by simpa using hj') e'
     ·cases h
    ·cases h
   ·cases h
  ·cases h
 ·cases h
end
end Go.Fer
namespace Go.Fer
open Go.RowKit
section
variable {C:Ctx} {T:Nat→Ty} {Φ:Nat→Option FC} {o:Oper} {s:AState} {res:OpRes}
theorem zeros_row {P:Program} {F:Nat→Prop} {w:World} {e:Ty} {z:Value} (h5:zeroRest e z.cells.toList=some []) (n:Nat) :
  RowL P e F w ((Array.range (n*e.size)).map (fun i=>z.cells[i % z.cells.size]!)).toList (List.replicate n e.dflt):=by
 obtain ⟨c,ec,z1,z2⟩:=zeroRest_ok (P:=P) (H:=fun _=>⟨0,.dead⟩) (κ:=fun _=>⟨0,0,0,true⟩) (F:=F) (w:=w) e h5
 rw [List.append_nil] at ec
 have hzs:z.cells.size=e.size:=by rw [←Array.length_toList,ec];exact RC_len e z1
 refine ⟨by simp,fun i hi=>?_⟩
 have hi':i<n:=by simpa using hi
 have hle:(i+1)*e.size≤n*e.size:=Nat.mul_le_mul_right _ (by omega)
 rw [Nat.add_mul] at hle
 have:((((Array.range (n*e.size)).map (fun i=>z.cells[i % z.cells.size]!)).toList.drop (i*e.size)).take e.size)=z.cells.toList:=by
  apply List.ext_getElem?
  intro j
  simp only [List.getElem?_take,List.getElem?_drop]
  split
  ·rename_i hj
   have hj':j<z.cells.size:=by rw [hzs];exact hj
   rw [Array.getElem?_toList,Array.getElem?_toList]
   have hmod:(i*e.size+j) % z.cells.size=j:=by rw [hzs,Nat.add_comm,Nat.add_mul_mod_self_right,Nat.mod_eq_of_lt hj]
   simp [show i*e.size+j<n*e.size by omega,hmod,hj']
  ·rename_i hj
   rw [List.getElem?_eq_none]
   simp [hzs]
   omega
 rw [this,ec]
 simpa using z1
theorem wrap_small {n:Int} (h0:0≤n) (h1:n≤4294967296):IntKind.i64.wrap n=n:=by
 simp only [IntKind.wrap,IntKind.signed,IntKind.bits]
 simp
 omega
theorem ok_makeSlice (hT:TabOk C.P T) {ty:TypeId} {l c:Operand} (hdst:∀ i,o.dst=some i→i<C.nt) (ho:o.op=.makeSlice ty l c) (h:(opV0 C.ft T Φ (opAV C.ft s.slot) o).run s.blk=some res):OpOk C o s res:=by
 simp only [opV0,ho,makeSlV] at h
 split at h
 ·rename_i e ht
  split at h
  ·rename_i n m hl hm
   have hti:=hT.is ht (by simp)
   obtain ⟨eid,hj,hj2,hj3⟩:=hti.sl
   obtain ⟨inf,z,i1,i2,i3,i4,i5,i6⟩:=infoOk_out hj2.info
   obtain ⟨b,hd,hk⟩:=newB_some h
   simp only [Option.some.injEq] at hk
   subst hk
   intro a w κ F Q hr hob hc
   have hln:=int?_ok (use_op hr l rfl hob.1) hl
   have hcm:=int?_ok (use_op hr c rfl hob.2) hm
   obtain ⟨c0,rfl,c1⟩:0≤n∧n=m∧lenLe n.toNat:=hc
   unfold lenLe at c1
   obtain ⟨k,rfl⟩:∃ k:Nat,n=k:=⟨n.toNat,by omega⟩
   simp only [Int.toNat_natCast] at c1
   have hw:IntKind.i64.wrap (k:Int)=k:=wrap_small (by omega) (by omega)
   let cs:Array Value:=(Array.range (k*e.size)).map (fun i=>z.cells[i % z.cells.size]!)
   have hrow:RowL C.P e F w cs.toList (List.replicate k e.dflt):=zeros_row i5 k
   have hbytes:inf.bytes*k≤2 ^ 47:=by
    calc inf.bytes*k≤1024*4294967296:=Nat.mul_le_mul i3 (by omega)
     _≤2 ^ 47:=by decide
   have hrun:(execOp a.eval o).run C.P w=.ok (.value (.slice (some ⟨w.heap.size,0,none⟩) k k)) (w.alloc (.cells cs eid)):=by
    have h48:¬((inf.bytes:Int)*(k:Int) > 2 ^ 48):=by
     have:((inf.bytes*k:Nat):Int)≤((2 ^ 47:Nat):Int):=by exact_mod_cast hbytes
     have e1:((2 ^ 47:Nat):Int)=140737488355328:=by decide
     have e2:(2:Int) ^ 48=281474976710656:=by decide
     rw [Int.natCast_mul] at this
     omega
    have hk0:¬((k:Int)<0):=by omega
    have hroom:¬(k*inf.bytes > roomBytes):=by
     have:roomBytes=2 ^ 47:=rfl
     rw [this,Nat.mul_comm];omega
    have hkk:¬((k:Int) > (k:Int)):=by omega
    simp only [execOp,ho,Instr.makeSlice,hln.1,hcm.1,Sem.run_bind,run_underlying' hj,Result.andThen_ok,asInt,asIntOf,Sem.run_pure,run_typeInfo' i1,hw,h48,hk0,hkk,decide_false,Bool.or_false,Bool.false_or,Bool.false_eq_true,if_false,run_askRoom,Int.toNat_natCast,run_sizeOf' i1,i2]
    by_cases hn0:k*e.size=0
    ·have hcs0:cs=#[]:=Array.eq_empty_of_size_eq_zero (by simp [cs,hn0])
     rw [hcs0]
     have h00:(Array.map (fun _:Nat=>(default:Value)) (Array.range 0))=#[]:=by simp
     simp [hn0,newRow]
     rw [h00]
    ·simp [hn0,run_zeroValue' i1 i4,newRow,cs]
   have h3:=hr.renew (b:=b) (g:=(s.blk b).gen+1) (zs:=List.replicate k e.dflt) (k:=⟨w.heap.size,0,k,false⟩) (w':=w.alloc (.cells cs eid)) (Nat.lt_succ_self _) (.inr rfl) (by simp) (fun r hr=>heap_alloc_lt w _ hr) (fun _=>by simp) ⟨rfl,rfl,rfl⟩
    (fun H κ'=>⟨fun h=>(by cases h),fun _=>⟨cs,eid,heap_alloc_new w _,by simp [cs],by simp,⟨by simp only;omega,hj2.rowT⟩,(hrow.rowIs (pre:=[]) (post:=[]) (by simp)).later (Ext.alloc hr.fsz _)⟩⟩)
   refine oper_value (by rw [ho];intro c hc;cases hc) hrun ⟨_,F,RelK.set (s:=s.setB b _) h3 hdst ⟨⟨by simp [AState.setB],rfl⟩,fun _ _=>by simp [AState.setB,KB.slice,Body.len]⟩⟩
  ·cases h
 ·cases h
theorem RowL.take {P:Program} {e:Ty} {F:Nat→Prop} {w:World} {all:List Value} {xs:List e.Den} (h:RowL P e F w all xs) {n:Nat} (hn:n≤xs.length):RowL P e F w (all.take (n*e.size)) (xs.take n):=by
 have hle:n*e.size≤xs.length*e.size:=Nat.mul_le_mul_right _ hn
 refine ⟨by simp only [List.length_take,h.1];rw [Nat.min_eq_left hle,Nat.min_eq_left hn],fun i hi=>?_⟩
 have hi':i<n:=by simp at hi;omega
 have hle2:(i+1)*e.size≤n*e.size:=Nat.mul_le_mul_right _ (by omega)
 rw [Nat.add_mul] at hle2
 have:((all.take (n*e.size)).drop (i*e.size)).take e.size=(all.drop (i*e.size)).take e.size:=by
  rw [List.drop_take,List.take_take,Nat.min_eq_left (by omega)]
 rw [this]
 simpa using h.2 i (by omega)
theorem firstCells_take {P:Program} {w:World} {e:Ty} {q:Option Addr} {n cap:Nat} {xs:List e.Den} {F:Nat→Prop} (hn:n≤xs.length) (h:(q=none∧xs=[]∧cap=0)∨∃ p all,q=some p∧RowL P e F w all xs∧Reads w p all) :
  ∃ all,(Builtin.firstCells e.size n (.slice q xs.length cap)).run P w=.ok all.toArray w∧RowL P e F w all (xs.take n):=by
 rcases h with ⟨rfl,rfl,rfl⟩ | ⟨p,all,rfl,a1,a2⟩
 ·exact ⟨[],by simp [Builtin.firstCells],by simp [RowL]⟩
 ·have hle:n*e.size≤xs.length*e.size:=Nat.mul_le_mul_right _ hn
  refine ⟨all.take (n*e.size),?_,a1.take hn⟩
  simp only [Builtin.firstCells]
  have hl:(all.take (n*e.size)).length=n*e.size:=by simp only [List.length_take,a1.1];exact Nat.min_eq_left hle
  have hr:Reads w p (all.take (n*e.size)):=⟨fun h0=>a2.1 (by simp at h0;omega),fun j hj=>by
   have hj':j<all.length:=by rw [hl] at hj;rw [a1.1];omega
   rw [List.getElem_take]
   exact a2.2 j hj'⟩
  have:=reads_run (P:=P) hr
  rw [hl] at this
  exact this
theorem RowIs.over {P:Program} {e:Ty} {F:Nat→Prop} {w w':World} {cs cs':Array Value} {off lo:Nat} {xs zs:List e.Den} {new:List Value} (h:RowIs P e F w cs off xs) (he:Ext F w w') (hn:RowL P e F w new zs) (hl:lo+zs.length≤xs.length)
  (hcs:off+xs.length*e.size≤cs.size) (hc:cs'.toList=cs.toList.take (off+lo*e.size)++(new++cs.toList.drop (off+lo*e.size+new.length))):RowIs P e F w' cs' off (Go.Fer.over xs lo zs):=by
 have hlen:(Go.Fer.over xs lo zs).length=xs.length:=by simp [Go.Fer.over];omega
 have hle0:(lo+zs.length)*e.size≤xs.length*e.size:=Nat.mul_le_mul_right _ hl
 rw [Nat.add_mul] at hle0
 have hnl:=hn.1
 have hpre:(cs.toList.take (off+lo*e.size)).length=off+lo*e.size:=by simp;omega
 intro i hi
 rw [hlen] at hi
 have hcases:i<lo∨(lo≤i∧i<lo+zs.length)∨lo+zs.length≤i:=by omega
 rcases hcases with h1 | ⟨h1,h2⟩ | h1
 ·obtain ⟨ds,d1,d2⟩:=h i hi
  have hds:=RC_len e d2
  have e1:(Go.Fer.over xs lo zs)[i]'(by rw [hlen];exact hi)=xs[i]:=by
   simp only [Go.Fer.over,List.append_assoc]
   rw [List.getElem_append_left (by simp;omega)]
   simp
  rw [e1]
  refine ⟨ds,fun j hj=>?_,RC_mono e (fun _ h=>h) he d2⟩
  have hle:(i+1)*e.size≤lo*e.size:=Nat.mul_le_mul_right _ (by omega)
  rw [Nat.add_mul] at hle
  rw [←Array.getElem?_toList,hc,List.getElem?_append_left (by omega),List.getElem?_take,if_pos (by omega),Array.getElem?_toList]
  exact d1 j hj
 ·have hri:=hn.rowIs (pre:=cs.toList.take (off+lo*e.size)) (post:=cs.toList.drop (off+lo*e.size+new.length)) hc
  obtain ⟨ds,d1,d2⟩:=hri (i - lo) (by omega)
  have e1:(Go.Fer.over xs lo zs)[i]'(by rw [hlen];exact hi)=zs[i - lo]'(by omega):=by
   simp only [Go.Fer.over,List.append_assoc]
   rw [List.getElem_append_right (by simp;omega)]
   have hl2:(xs.take lo).length=lo:=by simp;omega
   rw [List.getElem_append_left (by rw [hl2];omega)]
   simp only [hl2]
  rw [e1]
  refine ⟨ds,fun j hj=>?_,RC_mono e (fun _ h=>h) he d2⟩
  have:=d1 j hj
  rw [hpre] at this
  rw [←this]
  congr 1
  have:i*e.size=lo*e.size+(i - lo)*e.size:=by rw [←Nat.add_mul];congr 1;omega
  omega
 ·obtain ⟨ds,d1,d2⟩:=h i hi
  have hds:=RC_len e d2
  have e1:(Go.Fer.over xs lo zs)[i]'(by rw [hlen];exact hi)=xs[i]:=by
   simp only [Go.Fer.over,List.append_assoc]
   have hl2:(xs.take lo).length=lo:=by simp;omega
   rw [List.getElem_append_right (by rw [hl2];omega),List.getElem_append_right (by rw [hl2];omega)]
   simp only [hl2,List.getElem_drop]
   congr 1
   omega
  rw [e1]
  refine ⟨ds,fun j hj=>?_,RC_mono e (fun _ h=>h) he d2⟩
  have hge:(lo+zs.length)*e.size≤i*e.size:=Nat.mul_le_mul_right _ h1
  rw [Nat.add_mul] at hge
  rw [←Array.getElem?_toList,hc,List.getElem?_append_right (by omega),List.getElem?_append_right (by omega),List.getElem?_drop,hpre]
  rw [show off+lo*e.size+new.length+(off+i*e.size+j - (off+lo*e.size) - new.length)=off+i*e.size+j from by omega,Array.getElem?_toList]
  exact d1 j hj
theorem RowL.one {P:Program} {e:Ty} {F:Nat→Prop} {w:World} {new:List Value} {ys:List e.Den} (h:RowL P e F w new ys) (hpos:0<e.size):∀ v∈new,v.oneCell'=true:=by
 intro v hv
 obtain ⟨j,hj,rfl⟩:=List.mem_iff_getElem.1 hv
 have hdiv:j / e.size<ys.length:=(Nat.div_lt_iff_lt_mul hpos).2 (by rw [←h.1];exact hj)
 have hrc:=h.2 (j / e.size) hdiv
 have hal:=leafs_ok (P:=P) (H:=fun _=>⟨0,.dead⟩) (κ:=fun _=>⟨0,0,0,true⟩) e hrc
 have hmod:=Nat.mod_lt j hpos
 have hjj:j / e.size*e.size+j % e.size=j:=Nat.div_add_mod' j e.size
 have hlen2:((new.drop (j / e.size*e.size)).take e.size).length=e.size:=RC_len e hrc
 have:=(hal.nth (j % e.size) (by rw [hal.len,hlen2];exact hmod)).2
 rw [List.getD_eq_getElem?_getD,List.getElem?_take,if_pos hmod,List.getElem?_drop,hjj,List.getElem?_eq_getElem hj] at this
 exact this
theorem ok_copy (hT:TabOk C.P T) {args:Array Operand} {tys:Array TypeId} (hdst:∀ i,o.dst=some i→i<C.nt) (ho:o.op=.call { callee:=.builtin .copy,args:=args,argTypes:=tys }) (h:(opV0 C.ft T Φ (opAV C.ft s.slot) o).run s.blk=some res):OpOk C o s res:=by
 obtain ⟨args⟩:=args
 obtain ⟨tys⟩:=tys
 have hd:∀ c,o.op≠.defer c:=by rw [ho];intro c hc;cases hc
 simp only [opV0,ho,callV,copyOpV] at h
 split at h
 ·rename_i x y t u
  split at h
  ·rename_i e e2 ht hu
   have hti:=hT.is ht (by simp)
   obtain ⟨eid,hj,hj2,hj3⟩:=hti.sl
   obtain ⟨inf,z,i1,i2,i3,i4,i5,i6⟩:=infoOk_out hj2.info
   have hpos:0<e.size:=Nat.pos_of_ne_zero hj3
   split at h
   ·rename_i b g lo hi hdst'
    simp only [Rd.run_bindO,Option.bind_eq_some_iff,Rd.run_get,Rd.run_ret] at h
    obtain ⟨⟨ys,l⟩,hys,h⟩:=h
    split at h
    ·rename_i hg
     split at h
     ·rename_i e' xs hb
      split at h
      ·rename_i hee
       subst hee
       simp only [Option.some.injEq] at h
       subst h
       intro a w κ F Q hr hob _
       obtain ⟨q',cap',hyv,hyr⟩:=elems_ok hr hys (use_op hr y rfl hob.2)
       have hx:RA C.P s.blk κ F w (use (opAV C.ft s.slot x)).2 (a.eval x):=use_op hr x rfl hob.1
       have hB:=hr.blks b
       unfold HB at hB
       rw [hb] at hB
       have place:lo≤hi.getD xs.length∧hi.getD xs.length≤xs.length∧(((κ b).isNil=true∧∃ cap,a.eval x=.slice none 0 cap)∨((κ b).isNil=false∧∃ oo cap,a.eval x=.slice (some ⟨(κ b).blk,oo,none⟩) (hi.getD xs.length - lo) cap∧(lo<hi.getD xs.length→oo=(κ b).off+lo*e'.size))):=by
        split at hdst'
        ·rename_i b' g' hxe
         simp only [Option.some.injEq,Prod.mk.injEq] at hdst'
         obtain ⟨rfl,rfl,rfl,rfl⟩:=hdst'
         rw [hxe] at hx
         have hv:=hx.2 hg.symm (by rw [hb];rfl)
         rw [hb] at hv
         simp only [Body.len] at hv
         refine ⟨Nat.zero_le _,Nat.le_refl _,?_⟩
         cases hn:(κ b').isNil with
         | true=>exact .inl ⟨rfl,0,by simpa [KB.slice,hn] using hv⟩
         | false=>exact .inr ⟨rfl,(κ b').off,(κ b').cap,by simpa [KB.slice,hn] using hv,fun _=>by simp⟩
        ·rename_i b' g' lo' hi' hxe
         simp only [Option.some.injEq,Prod.mk.injEq] at hdst'
         obtain ⟨rfl,rfl,rfl,rfl⟩:=hdst'
         rw [hxe] at hx
         obtain ⟨⟨k1,k2⟩,k3⟩:=hx.2 hg.symm (by rw [hb];rfl)
         rw [hb] at k2 k3
         simp only [Body.len,Body.esz] at k2 k3
         refine ⟨k1,k2,?_⟩
         rcases k3 with ⟨hn,hv⟩ | ⟨hn,oo,hv,o1,o2⟩
         ·exact .inl ⟨hn,0,hv⟩
         ·obtain ⟨cs,T',c1,c2,c3,c4,c5⟩:=hB.2 hn
          exact .inr ⟨hn,oo,_,hv,fun hlt=>o2 (by simp only [Option.getD_some] at hlt;omega)⟩
        ·cases hdst'
       obtain ⟨p1,p2,p3⟩:=place
       have hlenI:∀ m:Nat,m≤ys.length→m≤xs.length→InR .i64 (m:Int):=by
        intro m _ hm
        have:=arr_nil hr (b:=b) (by rw [hb];rfl)
        rw [hb] at this
        simp only [Body.len] at this
        exact InR_len (by omega)
       generalize hmn:hi.getD xs.length=hh at *
       have hnm:Nat.min ys.length (hh - lo)=min (hh - lo) ys.length:=Nat.min_comm _ _
       have hzl:(ys.take (hh - lo)).length=min (hh - lo) ys.length:=by simp
       have hover:(over xs lo (ys.take (hh - lo))).length=xs.length:=by simp [over];omega
       have hl2:Later s.blk κ (fun i=>if i=b then (⟨(s.blk b).gen,.arr e' (over xs lo (ys.take (hh - lo)))⟩:ABlk) else s.blk i) κ:=
        later_same rfl (fun h=>by cases h) (fun _=>by rw [hb];exact ⟨rfl,hover,rfl⟩) (fun h=>by cases h) (fun h=>by cases h)
       have exe:∀ (w':World) v,(Builtin.copy_ #[t,u] o.type #[a.eval x,a.eval y]).run C.P w=.ok v w'→(execOp a.eval o).run C.P w=.ok (.value v) w':=by
        intro w' v hv
        refine run_call_builtin ho ?_
        simp [builtin,hv]
       rcases p3 with ⟨hn,cap,hxv⟩ | ⟨hn,oo,cap,hxv,hoo⟩
       ·have hxs:=hB.1 hn
        subst hxs
        have hh0:hh=0:=by simpa using p2
        subst hh0
        have hlo0:lo=0:=by omega
        subst hlo0
        obtain ⟨new,n1,n2⟩:=firstCells_take (P:=C.P) (w:=w) (n:=0) (Nat.zero_le _) hyr
        have hrun:(Builtin.copy_ #[t,u] o.type #[a.eval x,a.eval y]).run C.P w=.ok (.int .i64 ((0:Nat):Int)) w:=by
         simp only [Builtin.copy_,List.getElem?_toArray,List.getElem?_cons_zero,List.getElem?_cons_succ,Sem.run_bind,run_underlying' hj,Result.andThen_ok,hxv,hyv,Builtin.lenOf,Sem.run_pure,run_sizeOf' i1,i2,Nat.min_zero]
         rw [n1]
         rfl
        refine oper_value hd (exe w _ hrun) ⟨κ,F,RelK.set (s:=s.setB b _) ?_ hdst (RV_int.2 ⟨by simp,hlenI _ (by simp) (by simp)⟩)⟩
        have e0:over ([]:List e'.Den) 0 (ys.take (0 - 0))=[]:=by simp [over]
        have es:s.setB b ⟨(s.blk b).gen,.arr e' (over ([]:List e'.Den) 0 (ys.take (0 - 0)))⟩=s:=by
         rw [e0]
         unfold AState.setB
         have:(fun i=>if i=b then (⟨(s.blk b).gen,.arr e' []⟩:ABlk) else s.blk i)=s.blk:=by
          funext i
          by_cases hi:i=b
          ·subst hi
           simp only [if_true]
           rw [←hb]
          ·simp [hi]
         rw [this]
        rw [es]
        exact hr
       ·obtain ⟨cs,T',c1,c2,c3,c4,c5⟩:=hB.2 hn
        have hmin:min (hh - lo) ys.length≤ys.length:=Nat.min_le_right _ _
        obtain ⟨new,n1,n2⟩:=firstCells_take (P:=C.P) (w:=w) hmin hyr
        have htk:ys.take (min (hh - lo) ys.length)=ys.take (hh - lo):=by
         rw [←List.take_take,List.take_length]
        rw [htk] at n2
        have hnl:=n2.1
        rw [hzl] at hnl
        have hone:=n2.one hpos
        have hcapm:xs.length*e'.size≤(κ b).cap*e'.size:=Nat.mul_le_mul_right _ c3
        have hlom:(lo+min (hh - lo) ys.length)*e'.size≤xs.length*e'.size:=Nat.mul_le_mul_right _ (by omega)
        rw [Nat.add_mul] at hlom
        obtain ⟨w',cs',r1,r2,r3,r4,r5,r6⟩:∃ w' cs',(storeCells ⟨(κ b).blk,oo,none⟩ new).run C.P w=.ok () w'∧w'.heap[(κ b).blk]?=some (.cells cs' T' (0,0))∧cs'.toList=cs.toList.take ((κ b).off+lo*e'.size)++(new++cs.toList.drop ((κ b).off+lo*e'.size+new.length))∧
          (∀ r,r≠(κ b).blk→w'.heap[r]?=w.heap[r]?)∧w'.heap.size=w.heap.size∧Calm w w':=by
         by_cases hlt:lo<hh
         ·rw [hoo hlt]
          obtain ⟨w',cs',r1,r2,r3,r4,r5,r6⟩:=storeCells_ok (P:=C.P) new ((κ b).off+lo*e'.size) 0 w cs c1 (by omega) hone
          exact ⟨w',cs',r1,r2,by simpa using r3,r4,r5,r6⟩
         ·have h0:min (hh - lo) ys.length=0:=by omega
          rw [h0,Nat.zero_mul] at hnl
          have:new=[]:=List.eq_nil_of_length_eq_zero hnl
          subst this
          exact ⟨w,cs,by simp [storeCells],c1,by simp,fun _ _=>rfl,rfl,Calm.refl w⟩
        have hrun:(Builtin.copy_ #[t,u] o.type #[a.eval x,a.eval y]).run C.P w=.ok (.int .i64 ((min (hh - lo) ys.length:Nat):Int)) w':=by
         simp only [Builtin.copy_,List.getElem?_toArray,List.getElem?_cons_zero,List.getElem?_cons_succ,Sem.run_bind,run_underlying' hj,Result.andThen_ok,hxv,hyv,Builtin.lenOf,Sem.run_pure,run_sizeOf' i1,i2]
         rw [hnm,n1]
         simp only [Result.andThen_ok,r1]
         rfl
        refine oper_value hd (exe w' _ hrun) ⟨κ,F,RelK.set (s:=s.setB b _) ?_ hdst (RV_int.2 ⟨rfl,hlenI _ (by omega) (by omega)⟩)⟩
        refine hr.write (b:=b) (by rw [hb];simp [Body.owned,hn]) (by simp [Body.owned,hn]) hl2 (fun h=>by cases h) (fun h=>by cases h) r4 r5 r6 fun H hH hlt he=>?_
        refine ⟨fun h=>(by rw [hn] at h;cases h),fun _=>⟨cs',T',r2,?_,by rw [hover];exact c3,c4,?_⟩⟩
        ·have:cs'.size=cs.size:=by
          rw [←Array.length_toList,r3]
          simp only [List.length_append,List.length_take,List.length_drop,Array.length_toList]
          omega
         omega
        ·exact c5.over he n2 (by rw [hzl];omega) (by omega) r3
      ·cases h
     ·cases h
    ·cases h
   ·cases h
  ·cases h
 ·cases h
theorem ok_never (ho:(opV0 C.ft T Φ (opAV C.ft s.slot) o).run s.blk=some ⟨True,False,.undef,[]⟩) (h:(opV0 C.ft T Φ (opAV C.ft s.slot) o).run s.blk=some res):OpOk C o s res:=by
 rw [ho] at h
 cases h
 intro a w κ F Q _ _ hc
 exact hc.elim
end
end Go.Fer
namespace Go.Fer
open Go.RowKit
section
variable {C:Ctx} {T:Nat→Ty} {Φ:Nat→Option FC} {o:Oper} {s:AState} {res:OpRes}
theorem bounds_run3 {P:Program} {w:World} {len cap:Nat} {lo:Option Value} {l:Option Int} {k k':IntKind} {h m:Int} (hl:(lo=none∧l=none)∨∃ k m,lo=some (.int k m)∧l=some m)
  (h1:0≤loB l) (h2:loB l≤h) (h3:h≤m) (h4:m≤(cap:Int)):(Instr.sliceBounds true len cap lo (some (.int k h)) (some (.int k' m))).run P w=.ok ((loB l).toNat,h.toNat,m.toNat) w:=by
 rcases hl with ⟨rfl,rfl⟩ | ⟨k,n,rfl,rfl⟩<;>simp only [loB] at h1 h2 ⊢
 ·have e1:0≤m∧m≤(cap:Int):=by omega
  have e2:0≤h∧h≤m:=by omega
  have e3:max m 0=m:=by omega
  simp [Instr.sliceBounds,Instr.sliceBound,asIntOf,e1,e2,e3]
 ·have e1:0≤m∧m≤(cap:Int):=by omega
  have e2:0≤h∧h≤m:=by omega
  have e3:max m 0=m:=by omega
  have e4:0≤n∧n≤h:=by omega
  have e5:max h 0=h:=by omega
  simp [Instr.sliceBounds,Instr.sliceBound,asIntOf,e1,e2,e3,e4,e5]
theorem ok_slice3 (hT:TabOk C.P T) {ty:TypeId} {x:Operand} {lo hi:Option Operand} {mx:Operand} (hdst:∀ i,o.dst=some i→i<C.nt) (ho:o.op=.slice ty x lo hi (some mx)) (h:(opV0 C.ft T Φ (opAV C.ft s.slot) o).run s.blk=some res):OpOk C o s res:=by
 simp only [opV0,ho,Option.isSome_some,if_true,slice3OpV] at h
 split at h
 ·rename_i ol l oh hh om m hlo hhi hmx
  have hd:∀ c,o.op≠.defer c:=by rw [ho];intro c hc;cases hc
  split at h
  ·rename_i e0 ht
   have hti:=hT.is ht (by simp)
   obtain ⟨j,hj,hj2,hj3⟩:=hti.sl
   simp only [Rd.run_bindO,Option.bind_eq_some_iff] at h
   obtain ⟨⟨c,v⟩,hsv,h⟩:=h
   simp only [okRes,Rd.run_ret,Option.some.injEq] at h
   subst h
   have runs:∀ (a:Act) (w:World) κ F,RelK C s a w κ F→ol→oh→om→∀ (q:Option Addr) (n cap:Nat),a.eval x=.slice q n cap→0≤loB l→loB l≤hh→hh≤m→m≤(cap:Int)→
     (execOp a.eval o).run C.P w=.ok (.value (.slice (if m.toNat=(loB l).toNat then q else q.map (·.add ((loB l).toNat*e0.size))) (hh.toNat - (loB l).toNat) (m.toNat - (loB l).toNat))) w:=by
    intro a w κ F hr hol hoh hom q n cap hv c1 c2 c3 c4
    have b1:(lo.map a.eval=none∧l=none)∨∃ k m,lo.map a.eval=some (.int k m)∧l=some m:=by
     rcases boundV_ok hr hlo hol with ⟨rfl,rfl⟩ | ⟨y,k,m,rfl,rfl,e⟩
     ·exact .inl ⟨rfl,rfl⟩
     ·exact .inr ⟨k,m,by simp [e],rfl⟩
    obtain ⟨y2,k2,m2,rfl,e2,e3⟩:∃ y k n,hi=some y∧hh=n∧a.eval y=.int k n:=by
     rcases boundV_ok hr hhi hoh with ⟨_,h⟩ | ⟨y,k,m,rfl,h,e⟩
     ·cases h
     ·exact ⟨y,k,m,rfl,Option.some.inj h,e⟩
    obtain ⟨k3,e4⟩:∃ k,a.eval mx=.int k m:=by
     rcases boundV_ok hr hmx hom with ⟨h,_⟩ | ⟨y,k,m,h1,h2,e⟩
     ·cases h
     ·cases h1;cases h2;exact ⟨k,e⟩
    subst e2
    have:=bounds_run3 (P:=C.P) (w:=w) (len:=n) (k:=k2) (k':=k3) b1 c1 c2 c3 c4
    simp [execOp,ho,hv,Instr.sliceAt,Instr.slice,run_underlying' hj,e3,e4,this,hj2.size]
   unfold slice3V at hsv
   split at hsv
   ·rename_i e xs hxe
    simp only [Rd.run_ret] at hsv
    split at hsv
    ·rename_i he
     subst he
     simp only [Option.some.injEq,Prod.mk.injEq] at hsv
     obtain ⟨rfl,rfl⟩:=hsv
     refine OpOk.pure hd hdst fun a w κ F hr hob hc=>?_
     have hx:RA C.P s.blk κ F w (use (opAV C.ft s.slot x)).2 (a.eval x):=use_op hr x rfl hob.1
     rw [hxe] at hx
     obtain ⟨_,a',cap,e1,m1,m2,m3,m4⟩:=(RV_leaf rfl).1 hx
     have e1:=(List.cons.inj e1).1
     simp only [hiB] at hc
     obtain ⟨c1,c2,c3,c4⟩:=hc
     subst c3
     have hlen:((xs.take hh.toNat).drop (loB l).toNat).length=hh.toNat - (loB l).toNat:=by
      simp
      omega
     have hcap0:(xs.length:Int)≤cap:=by omega
     refine ⟨_,runs a w κ F hr hob.2.1 hob.2.2.1 hob.2.2.2 a' xs.length cap e1 c1 c2 (Int.le_refl _) (by omega),(RV_leaf rfl).2 ⟨rfl,?_⟩,_,by rw [hlen]⟩
     refine ⟨_,_,by rw [hlen],by rw [hlen];omega,by omega,?_,fun p hp hc0=>?_⟩
     ·intro hn
      split at hn
      ·omega
      ·cases a' with
       | none=>have:=m3 rfl;omega
       | some q=>cases hn
     ·cases a' with
      | none=>split at hp<;>cases hp
      | some q=>
       obtain ⟨n1,n2,n3⟩:=m4 q rfl (by omega)
       have hq:p=⟨q.block,q.off+(loB l).toNat*e.size,none⟩:=by
        split at hp
        ·rename_i hcap
         omega
        ·simp only [Option.map_some,Option.some.injEq] at hp
         rw [add_addr' n2] at hp
         exact hp.symm
       subst hq
       refine ⟨n1,rfl,fun i hi=>?_⟩
       rw [hlen] at hi
       obtain ⟨ds,d1,d2⟩:=n3 ((loB l).toNat+i) (by omega)
       refine ⟨ds,⟨d1.1,rfl,fun k hk=>?_⟩,?_⟩
       ·have:=d1.2.2 k hk
        rw [Nat.add_mul] at this
        rw [show q.off+(loB l).toNat*e.size+i*e.size=q.off+((loB l).toNat*e.size+i*e.size) from by omega]
        exact this
       ·have e2:((xs.take hh.toNat).drop (loB l).toNat)[i]'(by rw [hlen];exact hi)=xs[(loB l).toNat+i]'(by omega):=by simp
        rw [e2];exact d2
    ·cases hsv
   ·rename_i hxe
    simp only [Rd.run_ret,Option.some.injEq,Prod.mk.injEq] at hsv
    obtain ⟨rfl,rfl⟩:=hsv
    refine OpOk.pure hd hdst fun a w κ F hr hob hc=>?_
    have hx:RA C.P s.blk κ F w (use (opAV C.ft s.slot x)).2 (a.eval x):=use_op hr x rfl hob.1
    rw [hxe] at hx
    simp only [RA] at hx
    simp only [hiB] at hc
    obtain ⟨c1,c2,c3⟩:=hc
    have hrun:=runs a w κ F hr hob.2.1 hob.2.2.1 hob.2.2.2 none 0 0 hx (by omega) (by omega) (by omega) (by omega)
    have h0:hh.toNat=0:=by omega
    have h1:m.toNat=0:=by omega
    have h2:(loB l).toNat=0:=by omega
    rw [h0,h1,h2] at hrun
    simp only [if_true,Nat.sub_zero] at hrun
    exact ⟨_,hrun,(RV_leaf rfl).2 ⟨rfl,none,0,rfl,Nat.le_refl _,by decide,fun _=>rfl,fun p hp=>by cases hp⟩,none,rfl⟩
   ·rename_i b g hxe
    simp only [Rd.run_get,Rd.run_ret] at hsv
    split at hsv
    ·rename_i hz
     simp only [Bool.and_eq_true,decide_eq_true_eq] at hz
     obtain ⟨hg,harr⟩:=hz
     simp only [Option.some.injEq,Prod.mk.injEq] at hsv
     obtain ⟨rfl,rfl⟩:=hsv
     refine OpOk.pure hd hdst fun a w κ F hr hob hc=>?_
     have hx:RA C.P s.blk κ F w (use (opAV C.ft s.slot x)).2 (a.eval x):=use_op hr x rfl hob.1
     rw [hxe] at hx
     have hv:=hx.2 hg.symm harr
     obtain ⟨n1,n2⟩:=arr_nil hr harr
     simp only [hiB] at hc
     obtain ⟨c1,c2,c3,c4⟩:=hc
     cases hn:(κ b).isNil with
     | true=>
      have h0:=n1 hn
      simp only [KB.slice,hn,if_true] at hv
      exact ⟨_,runs a w κ F hr hob.2.1 hob.2.2.1 hob.2.2.2 none 0 0 hv c1 c2 c3 (by omega),trivial⟩
     | false=>
      have hcap:=arr_cap hr harr hn
      simp only [KB.slice,hn,Bool.false_eq_true,if_false] at hv
      exact ⟨_,runs a w κ F hr hob.2.1 hob.2.2.1 hob.2.2.2 _ _ _ hv c1 c2 c3 (by omega),trivial⟩
    ·cases hsv
   ·cases hsv
  ·cases h
 ·cases h
theorem setB_same {b:Nat} {e:Ty} (hb:(s.blk b).body=.arr e []):s.setB b ⟨(s.blk b).gen,.arr e []⟩=s:=by
 unfold AState.setB
 have:(fun i=>if i=b then (⟨(s.blk b).gen,.arr e []⟩:ABlk) else s.blk i)=s.blk:=by
  funext i
  by_cases hi:i=b
  ·subst hi
   simp only [if_true]
   rw [←hb]
  ·simp [hi]
 rw [this]
theorem ok_appIn (hT:TabOk C.P T) {args:Array Operand} {tys:Array TypeId} (hdst:∀ i,o.dst=some i→i<C.nt) (ho:o.op=.call { callee:=.builtin .append,args:=args,argTypes:=tys }) {b g lo hi:Nat} (hs:appSame (opAV C.ft s.slot) args.toList=some (b,g,lo,hi))
  (h:(appInV T (opAV C.ft s.slot) args.toList tys.toList b g lo hi).run s.blk=some res):OpOk C o s res:=by
 obtain ⟨args⟩:=args
 obtain ⟨tys⟩:=tys
 have hd:∀ c,o.op≠.defer c:=by rw [ho];intro c hc;cases hc
 simp only [appInV] at h
 split at h
 ·rename_i x y t u
  have hxe:(use (opAV C.ft s.slot x)).2=.sub b g lo hi:=by
   simp only [appSame] at hs
   split at hs
   ·rename_i b1 g1 lo1 hi1 b2 g2 _ _ h1 h2
    split at hs
    ·simp only [Option.some.injEq,Prod.mk.injEq] at hs
     obtain ⟨rfl,rfl,rfl,rfl⟩:=hs
     exact h1
    ·cases hs
   ·cases hs
  split at h
  ·rename_i e e2 ht hu
   have hti:=hT.is ht (by simp)
   have htu:=hT.is hu (by simp)
   obtain ⟨eid,hj,hj2,hj3⟩:=hti.sl
   obtain ⟨eid',hj',_⟩:=htu.sl
   obtain ⟨inf,z,i1,i2,i3,i4,i5,i6⟩:=infoOk_out hj2.info
   have hpos:0<e.size:=Nat.pos_of_ne_zero hj3
   simp only [Rd.run_bindO,Option.bind_eq_some_iff,Rd.run_get,Rd.run_ret] at h
   obtain ⟨⟨ys,l⟩,hys,h⟩:=h
   split at h
   ·rename_i hg
    split at h
    ·rename_i e' xs hb
     split at h
     ·rename_i hee
      subst hee
      simp only [Option.some.injEq] at h
      subst h
      intro a w κ F Q hr hob hc
      change hi+ys.length≤xs.length at hc
      obtain ⟨q',cap',hyv,hyr⟩:=elems_ok hr hys (use_op hr y rfl hob.2)
      have hx:RA C.P s.blk κ F w (use (opAV C.ft s.slot x)).2 (a.eval x):=use_op hr x rfl hob.1
      rw [hxe] at hx
      have hB:=hr.blks b
      unfold HB at hB
      rw [hb] at hB
      obtain ⟨⟨k1,k2⟩,k3⟩:=hx.2 hg.symm (by rw [hb];rfl)
      rw [hb] at k2 k3
      simp only [Body.len,Body.esz] at k2 k3
      have exe:∀ (w':World) v,(Builtin.append_ #[t,u] o.type #[a.eval x,a.eval y]).run C.P w=.ok v w'→(execOp a.eval o).run C.P w=.ok (.value v) w':=by
       intro w' v hv
       refine run_call_builtin ho ?_
       simp [builtin,hv]
      have hover:(over xs hi ys).length=xs.length:=by simp [over];omega
      have hl2:Later s.blk κ (fun i=>if i=b then (⟨(s.blk b).gen,.arr e' (over xs hi ys)⟩:ABlk) else s.blk i) κ:=
       later_same rfl (fun h=>by cases h) (fun _=>by rw [hb];exact ⟨rfl,hover,rfl⟩) (fun h=>by cases h) (fun h=>by cases h)
      rcases k3 with ⟨hn,hv⟩ | ⟨hn,oo,hv,o1,o2⟩
      ·have hxs:=hB.1 hn
       subst hxs
       have hi0:hi=0:=by simpa using k2
       subst hi0
       have hlo0:lo=0:=by omega
       subst hlo0
       have hy0:ys=[]:=by simpa using hc
       subst hy0
       obtain ⟨new,n1,n2⟩:=firstCells_run (P:=C.P) (w:=w) (cap:=cap') rfl hyr
       have hrun:(Builtin.append_ #[t,u] o.type #[a.eval x,a.eval y]).run C.P w=.ok (.slice none 0 0) w:=by
        rw [hv,hyv]
        simp only [List.length_nil] at n1 ⊢
        simp [Builtin.append_,run_underlying' hj,run_underlying' hj',run_sizeOf' i1,Builtin.lenOf]
        rw [i2,n1]
        simp
       have e0:over ([]:List e'.Den) 0 []=[]:=by simp [over]
       refine oper_value hd (exe w _ hrun) ⟨κ,F,RelK.set (s:=s.setB b _) ?_ hdst ⟨⟨by simp [AState.setB,hg],rfl⟩,fun _ _=>⟨by simp [AState.setB,Body.len],.inl ⟨hn,rfl⟩⟩⟩⟩
       rw [e0,setB_same hb]
       exact hr
      ·obtain ⟨cs,T',c1,c2,c3,c4,c5⟩:=hB.2 hn
       obtain ⟨new,n1,n2⟩:=firstCells_run (P:=C.P) (w:=w) (cap:=cap') rfl hyr
       have hnl:=n2.1
       have hone:=n2.one hpos
       have hcapm:xs.length*e'.size≤(κ b).cap*e'.size:=Nat.mul_le_mul_right _ c3
       have hlom:(hi+ys.length)*e'.size≤xs.length*e'.size:=Nat.mul_le_mul_right _ hc
       rw [Nat.add_mul] at hlom
       obtain ⟨w',cs',r1,r2,r3,r4,r5,r6⟩:∃ w' cs',(storeCells ⟨(κ b).blk,oo+(hi - lo)*e'.size,none⟩ new).run C.P w=.ok () w'∧w'.heap[(κ b).blk]?=some (.cells cs' T' (0,0))∧cs'.toList=cs.toList.take ((κ b).off+hi*e'.size)++(new++cs.toList.drop ((κ b).off+hi*e'.size+new.length))∧
         (∀ r,r≠(κ b).blk→w'.heap[r]?=w.heap[r]?)∧w'.heap.size=w.heap.size∧Calm w w':=by
        by_cases hlt:lo<(κ b).cap
        ·have eo:oo+(hi - lo)*e'.size=(κ b).off+hi*e'.size:=by
          rw [o2 hlt,Nat.add_assoc,←Nat.add_mul]
          congr 2
          omega
         rw [eo]
         obtain ⟨w',cs',r1,r2,r3,r4,r5,r6⟩:=storeCells_ok (P:=C.P) new ((κ b).off+hi*e'.size) 0 w cs c1 (by omega) hone
         exact ⟨w',cs',r1,r2,by simpa using r3,r4,r5,r6⟩
        ·have h0:ys.length=0:=by omega
         rw [h0,Nat.zero_mul] at hnl
         have:new=[]:=List.eq_nil_of_length_eq_zero hnl
         subst this
         exact ⟨w,cs,by simp [storeCells],c1,by simp,fun _ _=>rfl,rfl,Calm.refl w⟩
       have hroom:hi - lo+ys.length≤(κ b).cap - lo:=by omega
       have hrun:(Builtin.append_ #[t,u] o.type #[a.eval x,a.eval y]).run C.P w=.ok (.slice (some ⟨(κ b).blk,oo,none⟩) (hi - lo+ys.length) ((κ b).cap - lo)) w':=by
        rw [hv,hyv]
        simp only [Builtin.append_,List.getElem?_toArray,List.getElem?_cons_zero,List.getElem?_cons_succ,Sem.run_bind,run_underlying' hj,run_underlying' hj',Result.andThen_ok,run_sizeOf' i1,i2,Sem.run_pure,Builtin.lenOf,Bool.false_eq_true,if_false,
         if_pos hroom,Bool.not_false,if_true,n1,add_addr]
        simp only [r1,Result.andThen_ok]
       refine oper_value hd (exe w' _ hrun) ⟨κ,F,RelK.set (s:=s.setB b _) ?_ hdst ⟨⟨by simp [AState.setB,hg],rfl⟩,fun _ _=>⟨by simp only [AState.setB,if_true,Body.len,hover];omega,.inr ⟨hn,oo,?_,?_,?_⟩⟩⟩⟩
       ·refine hr.write (b:=b) (by rw [hb];simp [Body.owned,hn]) (by simp [Body.owned,hn]) hl2 (fun h=>by cases h) (fun h=>by cases h) r4 r5 r6 fun H hH hlt he=>?_
        refine ⟨fun h=>(by rw [hn] at h;cases h),fun _=>⟨cs',T',r2,?_,by rw [hover];exact c3,c4,?_⟩⟩
        ·have:cs'.size=cs.size:=by
          rw [←Array.length_toList,r3]
          simp only [List.length_append,List.length_take,List.length_drop,Array.length_toList]
          omega
         omega
        ·exact c5.over he n2 hc (by omega) r3
       ·rw [show hi+ys.length - lo=hi - lo+ys.length from by omega]
       ·simp only [AState.setB,if_true,Body.esz];exact o1
       ·simp only [AState.setB,if_true,Body.esz];exact o2
     ·cases h
    ·cases h
   ·cases h
  ·cases h
 ·cases h
theorem ok_clear (hT:TabOk C.P T) {args:Array Operand} {tys:Array TypeId} (hdst:∀ i,o.dst=some i→i<C.nt) (ho:o.op=.call { callee:=.builtin .clear,args:=args,argTypes:=tys })
  (h:(clearOpV T (opAV C.ft s.slot) args.toList tys.toList).run s.blk=some res):OpOk C o s res:=by
 obtain ⟨args⟩:=args
 obtain ⟨tys⟩:=tys
 have hd:∀ c,o.op≠.defer c:=by rw [ho];intro c hc;cases hc
 simp only [clearOpV] at h
 split at h
 ·rename_i x t
  split at h
  ·rename_i e ht
   have hti:=hT.is ht (by simp)
   obtain ⟨eid,hj,hj2,hj3⟩:=hti.sl
   obtain ⟨inf,z,i1,i2,i3,i4,i5,i6⟩:=infoOk_out hj2.info
   have hpos:0<e.size:=Nat.pos_of_ne_zero hj3
   split at h
   ·rename_i b g lo hi hxe
    simp only [Rd.run_get,Rd.run_ret] at h
    split at h
    ·rename_i hg
     split at h
     ·rename_i e' xs hb
      split at h
      ·rename_i hee
       subst hee
       simp only [Option.some.injEq] at h
       subst h
       intro a w κ F Q hr hob _
       have hx:RA C.P s.blk κ F w (use (opAV C.ft s.slot x)).2 (a.eval x):=use_op hr x rfl hob
       rw [hxe] at hx
       have hB:=hr.blks b
       unfold HB at hB
       rw [hb] at hB
       obtain ⟨⟨k1,k2⟩,k3⟩:=hx.2 hg.symm (by rw [hb];rfl)
       rw [hb] at k2 k3
       simp only [Body.len,Body.esz] at k2 k3
       have exe:∀ (w':World) v,(Builtin.clear_ #[t] o.type #[a.eval x]).run C.P w=.ok v w'→(execOp a.eval o).run C.P w=.ok (.value v) w':=by
        intro w' v hv
        refine run_call_builtin ho ?_
        simp [builtin,hv]
       have hrl:(List.replicate (hi - lo) e'.dflt).length=hi - lo:=by simp
       have hover:(over xs lo (List.replicate (hi - lo) e'.dflt)).length=xs.length:=by simp [over];omega
       have hl2:Later s.blk κ (fun i=>if i=b then (⟨(s.blk b).gen,.arr e' (over xs lo (List.replicate (hi - lo) e'.dflt))⟩:ABlk) else s.blk i) κ:=
        later_same rfl (fun h=>by cases h) (fun _=>by rw [hb];exact ⟨rfl,hover,rfl⟩) (fun h=>by cases h) (fun h=>by cases h)
       have nothing:hi - lo=0→over xs lo (List.replicate (hi - lo) e'.dflt)=xs:=fun h0=>by rw [h0];simp [over]
       have same:hi - lo=0→s.setB b ⟨(s.blk b).gen,.arr e' (over xs lo (List.replicate (hi - lo) e'.dflt))⟩=s:=fun h0=>by
        rw [nothing h0]
        unfold AState.setB
        have:(fun i=>if i=b then (⟨(s.blk b).gen,.arr e' xs⟩:ABlk) else s.blk i)=s.blk:=by
         funext i
         by_cases hi:i=b
         ·subst hi
          simp only [if_true]
          rw [←hb]
         ·simp [hi]
        rw [this]
       rcases k3 with ⟨hn,hv⟩ | ⟨hn,oo,hv,o1,o2⟩
       ·have hxs:=hB.1 hn
        subst hxs
        have hi0:hi - lo=0:=by simp at k2;omega
        have hrun:(Builtin.clear_ #[t] o.type #[a.eval x]).run C.P w=.ok (.tuple #[]) w:=by
         rw [hv]
         simp [Builtin.clear_,run_underlying' hj]
        refine oper_value hd (exe w _ hrun) ⟨κ,F,RelK.set (s:=s.setB b _) ?_ hdst trivial⟩
        rw [same hi0]
        exact hr
       ·obtain ⟨cs,T',c1,c2,c3,c4,c5⟩:=hB.2 hn
        by_cases h0:hi - lo=0
        ·have hrun:(Builtin.clear_ #[t] o.type #[a.eval x]).run C.P w=.ok (.tuple #[]) w:=by
          rw [hv,h0]
          simp [Builtin.clear_,run_underlying' hj]
         refine oper_value hd (exe w _ hrun) ⟨κ,F,RelK.set (s:=s.setB b _) ?_ hdst trivial⟩
         rw [same h0]
         exact hr
        ·obtain ⟨n,hn1⟩:∃ n,hi - lo=n+1:=⟨hi - lo - 1,by omega⟩
         have hrow:RowL C.P e' F w ((Array.range ((hi - lo)*e'.size)).map (fun i=>z.cells[i % z.cells.size]!)).toList (List.replicate (hi - lo) e'.dflt):=zeros_row i5 _
         have hzs:z.cells.size=e'.size:=by
          obtain ⟨c,ec,z1,z2⟩:=zeroRest_ok (P:=C.P) (H:=fun _=>⟨0,.dead⟩) (κ:=fun _=>⟨0,0,0,true⟩) (F:=F) (w:=w) e' i5
          rw [List.append_nil] at ec
          rw [←Array.length_toList,ec];exact RC_len e' z1
         have hnl:=hrow.1
         rw [hrl] at hnl
         have hone:=hrow.one hpos
         revert hrow hnl hone
         generalize hnew:((Array.range ((hi - lo)*e'.size)).map (fun i=>z.cells[i % z.cells.size]!)).toList=new
         intro hrow hnl hone
         have hcapm:xs.length*e'.size≤(κ b).cap*e'.size:=Nat.mul_le_mul_right _ c3
         have hlom:(lo+(hi - lo))*e'.size≤xs.length*e'.size:=Nat.mul_le_mul_right _ (by omega)
         rw [Nat.add_mul] at hlom
         have eo:oo=(κ b).off+lo*e'.size:=o2 (by omega)
         obtain ⟨w',cs',r1,r2,r3,r4,r5,r6⟩:=storeCells_ok (P:=C.P) new ((κ b).off+lo*e'.size) 0 w cs c1 (by omega) hone
         have hrun:(Builtin.clear_ #[t] o.type #[a.eval x]).run C.P w=.ok (.tuple #[]) w':=by
          rw [hv,eo]
          have hz:(Builtin.zeroCells z.cells (hi - lo)).toList=new:=by rw [←hnew,←hzs];rfl
          simp only [Builtin.clear_,List.getElem?_toArray,List.getElem?_cons_zero,Sem.run_bind,run_underlying' hj,Result.andThen_ok,run_zeroValue' i1 i4,hn1]
          rw [←hn1,hz]
          simp only [r1,Result.andThen_ok,Sem.run_pure]
         refine oper_value hd (exe w' _ hrun) ⟨κ,F,RelK.set (s:=s.setB b _) ?_ hdst trivial⟩
         refine hr.write (b:=b) (by rw [hb];simp [Body.owned,hn]) (by simp [Body.owned,hn]) hl2 (fun h=>by cases h) (fun h=>by cases h) r4 r5 r6 fun H hH hlt he=>?_
         refine ⟨fun h=>(by rw [hn] at h;cases h),fun _=>⟨cs',T',r2,?_,by rw [hover];exact c3,c4,?_⟩⟩
         ·have:cs'.size=cs.size:=by
           rw [←Array.length_toList,r3]
           simp only [List.length_append,List.length_take,List.length_drop,Array.length_toList]
           omega
          omega
         ·exact c5.over he hrow (by rw [hrl];omega) (by omega) (by simpa using r3)
      ·cases h
     ·cases h
    ·cases h
   ·cases h
  ·cases h
 ·cases h
end
end Go.Fer
namespace Go.Fer
open Go.RowKit
section
variable {C:Ctx} {T:Nat→Ty} {Φ:Nat→Option FC} {o:Oper} {s:AState} {res:OpRes}
theorem fillRow_run {place:Nat→Option (Nat×Nat)} {size:Nat} (hp:∀ i,place i=some (i*size,size)):∀ (qs:List (Nat×Value)) (cs:Array Value),(∀ q∈qs,q.2.cells.size=size∧q.1*size+size≤cs.size)→(qs.map (·.1)).Nodup→
  ∃ cs',Instr.fill place cs qs=some cs'∧cs'.size=cs.size∧∀ i,i*size+size≤cs.size→(cs'.toList.drop (i*size)).take size=(match qs.find? (fun p=>p.1 == i) with | some q=>q.2.cells.toList | none=>(cs.toList.drop (i*size)).take size)
 | [],cs,_,_=>⟨cs,rfl,rfl,fun i _=>rfl⟩
 | (k,v)::qs,cs,h,hn=>by
  obtain ⟨h1,h2⟩:=h (k,v) (by simp)
  simp only at h1 h2
  have hfold:=fold_set v.cells.toList 0 (k*size) cs (by simp;omega)
  have e:(v.cells.zipIdx.foldl (fun (cs:Array Value) (p:Value×Nat)=>cs.setIfInBounds (k*size+p.2) p.1) cs)=((v.cells.toList.zipIdx 0).foldl (fun (cs:Array Value) (p:Value×Nat)=>cs.setIfInBounds (k*size+p.2) p.1) cs):=by
   rw [←Array.foldl_toList]
   simp
  generalize hcs1:(v.cells.zipIdx.foldl (fun (cs:Array Value) (p:Value×Nat)=>cs.setIfInBounds (k*size+p.2) p.1) cs)=cs1 at *
  have hl1:cs1.toList=cs.toList.take (k*size)++(v.cells.toList++cs.toList.drop (k*size+size)):=by
   rw [e,hfold];simp [h1]
  have hsz:cs1.size=cs.size:=by
   rw [←Array.length_toList,hl1]
   simp
   omega
  have hn':(qs.map (·.1)).Nodup∧k ∉ qs.map (·.1):=by
   simp only [List.map_cons,List.nodup_cons] at hn
   exact ⟨hn.2,hn.1⟩
  obtain ⟨cs',k1,k2,k3⟩:=fillRow_run hp qs cs1 (fun q hq=>by rw [hsz];exact h q (by simp [hq])) hn'.1
  refine ⟨cs',?_,by rw [k2,hsz],fun i hi=>?_⟩
  ·simp only [Instr.fill,hp]
   rw [if_neg (by simp;omega)]
   rw [hcs1]
   exact k1
  ·rw [k3 i (by rw [hsz];exact hi)]
   by_cases hik:k=i
   ·subst hik
    have:qs.find? (fun p=>p.1 == k)=none:=by
     rw [List.find?_eq_none]
     intro q hq hqk
     exact hn'.2 (List.mem_map.2 ⟨q,hq,by simpa using hqk⟩)
    simp only [this,List.find?_cons,beq_self_eq_true]
    rw [hl1,List.drop_append,List.drop_of_length_le (by simp;omega)]
    have:(List.take (k*size) cs.toList).length=k*size:=by simp;omega
    rw [this]
    rw [Nat.sub_self,List.drop_zero,List.nil_append,List.take_append_of_le_length (by simp [h1]),List.take_of_length_le (by simp [h1])]
   ·have:((k,v)::qs).find? (fun p=>p.1 == i)=qs.find? (fun p=>p.1 == i):=by simp [hik]
    rw [this]
    have hrow:(cs1.toList.drop (i*size)).take size=(cs.toList.drop (i*size)).take size:=by
     apply List.ext_getElem?
     intro j
     simp only [List.getElem?_take,List.getElem?_drop]
     split
     ·rename_i hj
      rw [hl1]
      have htk:(List.take (k*size) cs.toList).length=k*size:=by simp;omega
      have hvl:v.cells.toList.length=size:=by simpa using h1
      rcases Nat.lt_or_ge i k with h3 | h3
      ·have:(i+1)*size≤k*size:=Nat.mul_le_mul_right _ (by omega)
       rw [Nat.add_mul] at this
       rw [List.getElem?_append_left (by omega),List.getElem?_take,if_pos (by omega)]
      ·have:(k+1)*size≤i*size:=Nat.mul_le_mul_right _ (by omega)
       rw [Nat.add_mul] at this
       rw [List.getElem?_append_right (by omega),htk,List.getElem?_append_right (by omega),List.getElem?_drop]
       congr 1
       omega
     ·rfl
    rw [hrow]
theorem ok_buildSlice (hT:TabOk C.P T) {ty n:Nat} {ps:Array (Nat×Operand)} (hdst:∀ i,o.dst=some i→i<C.nt) (ho:o.op=.buildSlice ty n ps) (h:(opV0 C.ft T Φ (opAV C.ft s.slot) o).run s.blk=some res):OpOk C o s res:=by
 obtain ⟨ps⟩:=ps
 have hd:∀ c,o.op≠.defer c:=by rw [ho];intro c hc;cases hc
 simp only [opV0,ho] at h
 split at h
 ·rename_i e ht
  have hti:=hT.is ht (by simp)
  obtain ⟨eid,hj,hj2,hj3⟩:=hti.sl
  obtain ⟨inf,z,i1,i2,i3,i4,i5,i6⟩:=infoOk_out hj2.info
  simp only [Rd.run_bindO,Option.bind_eq_some_iff,Rd.run_bind] at h
  obtain ⟨⟨xs,fl⟩,hxs,h⟩:=h
  obtain ⟨b,hdb,hk⟩:=newB_some h
  split at hk
  ·rename_i hcond
   obtain ⟨hsmall,hcond2⟩:=hcond
   simp only [Bool.and_eq_true,Bool.not_eq_true',decide_eq_true_eq] at hcond2
   obtain ⟨⟨hfl,hnd⟩,hrange⟩:=hcond2
   have hnb:b ∉ fl:=by simpa using hfl
   simp only [Option.some.injEq] at hk
   subst hk
   intro a w κ F Q hr hob _
   obtain ⟨F',f1,hr',f2⟩:=RelK.frzL (elemsD_closed n 0 hxs) hr
   obtain ⟨zc,ze,z1,z2⟩:=zeroRest_ok (P:=C.P) (H:=s.blk) (κ:=κ) (F:=F') (w:=w) e i5
   rw [List.append_nil] at ze
   have hparts:=parts_ok hr ps hob
   have hel:=elemsD_ok hr.blks f1 z1 (ps:=useL (ps.map fun p=>(p.1,opAV C.ft s.slot p.2))) (qs:=ps.map fun p=>(p.1,a.eval p.2)) (by simp [useL]) hparts n 0 hxs f2
   have hzs:=(nthAV_zeros_len e (P:=C.P) i5).2
   have hrange':∀ p∈ps,p.1<n:=by
    intro p hp
    have:=List.all_eq_true.1 hrange (p.1,(use (opAV C.ft s.slot p.2)).2) (by simp only [useL,List.map_map,List.mem_map];exact ⟨p,hp,rfl⟩)
    simpa using this
   have hnd':((ps.map fun p=>(p.1,a.eval p.2)).map (·.1)).Nodup:=by
    have:(useL (ps.map fun p=>(p.1,opAV C.ft s.slot p.2))).map (·.1)=(ps.map fun p=>(p.1,a.eval p.2)).map (·.1):=by simp [useL]
    rw [←this]
    exact hnd
   have hsize:∀ q∈ps.map (fun p=>(p.1,a.eval p.2)),q.2.cells.size=e.size∧q.1*e.size+e.size≤n*e.size:=by
    intro q hq
    obtain ⟨p,hp,rfl⟩:=List.mem_map.1 hq
    have hlt:=hrange' p hp
    refine ⟨?_,by
     have:(p.1+1)*e.size≤n*e.size:=Nat.mul_le_mul_right _ (by omega)
     rw [Nat.add_mul] at this
     simp only;omega⟩
    obtain ⟨ds,d1,d2⟩:=hel.2 p.1 (by rw [hel.1];exact hlt)
    rw [Nat.zero_add] at d2
    have hfind:(ps.map fun p=>(p.1,a.eval p.2)).find? (fun r=>r.1 == p.1)=some (p.1,a.eval p.2):=by
     have huniq:∀ (l:List (Nat×Value)),(l.map (·.1)).Nodup→∀ q∈l,l.find? (fun r=>r.1 == q.1)=some q:=by
      intro l
      induction l with
      | nil=>intro _ q hq;cases hq
      | cons c l ih=>
       intro hnd q hq
       simp only [List.map_cons,List.nodup_cons] at hnd
       rcases List.mem_cons.1 hq with rfl | hq
       ·simp
       ·have:c.1≠q.1:=fun h=>hnd.1 (h ▸ List.mem_map_of_mem hq)
        simp only [List.find?_cons,beq_eq_false_iff_ne.2 this]
        exact ih hnd.2 q hq
     exact huniq _ hnd' _ (List.mem_map.2 ⟨p,hp,rfl⟩)
    rw [hfind] at d2
    have:=RC_len e d1
    rw [d2] at this
    simpa using this
   have hz0:z.cells.size≠0:=by rw [hzs];exact hj3
   let base:Array Value:=(Array.range (n*e.size)).map (fun i=>z.cells[i % z.cells.size]!)
   have hbase:base.size=n*e.size:=by simp [base]
   obtain ⟨cs',k1,k2,k3⟩:=fillRow_run (place:=fun i=>some (i*e.size,e.size)) (fun i=>rfl) (ps.map fun p=>(p.1,a.eval p.2)) base (by rw [hbase];exact hsize) hnd'
   have hzrow:∀ i,i<n→(base.toList.drop (i*e.size)).take e.size=z.cells.toList:=by
    intro i hi
    have hle:(i+1)*e.size≤n*e.size:=Nat.mul_le_mul_right _ (by omega)
    rw [Nat.add_mul] at hle
    apply List.ext_getElem?
    intro j
    simp only [List.getElem?_take,List.getElem?_drop]
    split
    ·rename_i hj
     have hj':j<z.cells.size:=by rw [hzs];exact hj
     rw [Array.getElem?_toList,Array.getElem?_toList]
     have hmod:(i*e.size+j) % z.cells.size=j:=by rw [hzs,Nat.add_comm,Nat.add_mul_mod_self_right,Nat.mod_eq_of_lt hj]
     simp [base,show i*e.size+j<n*e.size by omega,hmod,hj']
    ·rename_i hj
     rw [List.getElem?_eq_none]
     simp [hzs]
     omega
   have hrowL:RowL C.P e F' w cs'.toList xs:=by
    refine ⟨by rw [Array.length_toList,k2,hbase,hel.1],fun i hi=>?_⟩
    have hi':i<n:=by rw [hel.1] at hi;exact hi
    have hle:(i+1)*e.size≤n*e.size:=Nat.mul_le_mul_right _ (by omega)
    rw [Nat.add_mul] at hle
    rw [k3 i (by rw [hbase];omega),hzrow i hi']
    obtain ⟨ds,d1,d2⟩:=hel.2 i hi
    rw [Nat.zero_add] at d2
    split at d2<;>rename_i hf
    ·first | (rw [hf];simp only;rw [←d2];exact d1) | (rw [←d2];exact d1)
    ·first | (rw [hf];simp only;rw [ze,←d2];exact d1) | (rw [ze,←d2];exact d1)
   have hrun:(execOp a.eval o).run C.P w=.ok (.value (.slice (some ⟨w.heap.size,0,none⟩) n n)) (w.alloc (.cells cs' eid)):=by
    have hle24:¬n*e.size > 2 ^ 24:=by omega
    simp only [execOp,ho,Instr.buildSlice,Sem.run_bind,run_underlying' hj,Result.andThen_ok,run_sizeOf' i1,i2,hle24,if_false]
    by_cases hn0:n*e.size=0
    ·have hb0:base=#[]:=Array.eq_empty_of_size_eq_zero (by rw [hbase];exact hn0)
     rw [hb0] at k1
     simp only [hn0,if_true,Sem.run_bind,Sem.run_pure,Result.andThen_ok]
     rw [show ((Array.range 0).map (fun i=>(#[]:Array Value)[i % (#[]:Array Value).size]!))=#[] from by simp]
     simp only [List.map_toArray] at k1 ⊢
     rw [show Instr.fill (fun i=>some (i*e.size,e.size)) #[] (ps.map fun x=>(x.1,a.eval x.2))=some cs' from k1]
     simp [newRow]
    ·simp only [hn0,if_false,Sem.run_bind,run_zeroValue' i1 i4,Result.andThen_ok,Sem.run_pure]
     simp only [List.map_toArray]
     rw [show Instr.fill (fun i=>some (i*e.size,e.size)) ((Array.range (n*e.size)).map (fun i=>z.cells[i % z.cells.size]!)) (ps.map fun x=>(x.1,a.eval x.2))=some cs' from k1]
     simp [newRow]
   have hset:s.setBs ((frzB fl).run s.blk++[(b,⟨(s.blk b).gen+1,.arr e xs⟩)])=(s.frz fl).setB b ⟨(s.blk b).gen+1,.arr e xs⟩:=by
    rw [setBs_snoc,setBs_frz]
   have hbf:(s.frz fl).blk b=s.blk b:=by simp [AState.frz,hnb]
   have h3:=hr'.renew (b:=b) (g:=(s.blk b).gen+1) (zs:=xs) (k:=⟨w.heap.size,0,n,false⟩) (w':=w.alloc (.cells cs' eid)) (by rw [hbf];exact Nat.lt_succ_self _) (.inr rfl) (by simp) (fun r hr=>heap_alloc_lt w _ hr) (fun _=>by simp) ⟨rfl,rfl,rfl⟩
    (fun H κ'=>⟨fun h=>(by cases h),fun _=>⟨cs',eid,heap_alloc_new w _,by rw [k2,hbase];simp,by rw [hel.1];exact Nat.le_refl _,by
     have:n≤n*e.size:=Nat.le_mul_of_pos_right _ (Nat.pos_of_ne_zero hj3)
     exact ⟨by simp only;omega,hj2.rowT⟩,(hrowL.rowIs (pre:=[]) (post:=[]) (by simp)).later (Ext.alloc hr'.fsz _)⟩⟩)
   refine oper_value hd hrun ?_
   simp only [AState.app]
   rw [hset]
   exact ⟨_,F',RelK.set h3 hdst ⟨⟨by simp [AState.setB],rfl⟩,fun _ _=>by simp [AState.setB,KB.slice,Body.len,hel.1]⟩⟩
  ·cases hk
 ·cases h
theorem RArgs.mono {P:Program} {t:Ty} {F F':Nat→Prop} {w w':World} {vs:List Value} {x:t.Den} (h:RArgs P t F w vs x) (hF:∀ r,F r→F' r) (he:Ext F w w'):RArgs P t F' w' vs x:=⟨h.1,RC_mono t hF he h.2⟩
theorem ok_closure {k:FuncId} {caps:List Operand} (hdst:∀ i,o.dst=some i→i<C.nt) (ho:o.op=.makeFunc (.func k) #[] ⟨caps⟩) {v:ClV} (hv:C.ft.clv k=some v)
  (h:((asArgs (tupT (v.cs.map .ptr)) ((caps.map (opAV C.ft s.slot)).map fun v=>(use v).2)).bindO fun (y,fl)=>(frzB fl).bind fun wl=>.ret (some ⟨usesObL (caps.map (opAV C.ft s.slot)),True,.val (.fn (tupT v.as) v.tr) (fun x=>v.sh (joinD v.as (v.cs.map .ptr) x y)),wl⟩):Rd (Option OpRes)).run s.blk=some res):OpOk C o s res:=by
 simp only [Rd.run_bindO,Option.bind_eq_some_iff,Rd.run_bind,Rd.run_ret,Option.some.injEq] at h
 obtain ⟨⟨y,l⟩,hy,rfl⟩:=h
 intro a w κ F Q hr hob _
 obtain ⟨F',f1,hr',f2⟩:=RelK.frzL (asArgs_closed _ hy) hr
 have hargs:RArgs C.P (tupT (v.cs.map .ptr)) F' w (caps.map a.eval) y:=by
  refine asArgs_ok hr.blks f1 _ hy f2 (by simp) fun i hi hi'=>?_
  simp only [List.getElem_map]
  have hi2:i<caps.length:=by simpa using hi'
  have h1:=usesObL_spec hob i (by simpa using hi2)
  have e1:(caps.map (opAV C.ft s.slot)).getD i .undef=opAV C.ft s.slot caps[i]:=by simp [List.getD_eq_getElem?_getD,hi2]
  rw [e1] at h1
  exact use_ok (opAV_ok hr caps[i]) h1
 obtain ⟨hs,hspec⟩:=hr.ftok.clv k v hv
 have hrun:(execOp a.eval o).run C.P w=.ok (.value (.func (.func k) #[] (caps.map a.eval).toArray)) w:=by simp [execOp,ho,Instr.makeFunc]
 refine oper_value (by rw [ho];intro c hc;cases hc) hrun ⟨κ,F',?_⟩
 simp only [AState.app]
 rw [setBs_frz]
 refine RelK.set hr' hdst ((RV_leaf rfl).2 ⟨rfl,_,rfl,⟨rfl,rfl⟩,fun F2 w2 hF2 he2 hs2 hg2 args x h1 h2 h3=>⟨k,_,rfl,hspec.enter,?_⟩⟩)
 have hj:=joinD_ok v.as (v.cs.map .ptr) hs (P:=C.P) (F:=F2) (w:=w2) ⟨h1,h2⟩ (hargs.mono hF2 he2)
 have:=hspec.calls F2 w2 _ _ hs2 hg2 hj h3
 have e:(args++caps.map a.eval).toArray=args.toArray++(caps.map a.eval).toArray:=by simp
 rw [e] at this
 exact this.mono fun e w'' ⟨v,y,e1,e2,⟨vs,e3,e4,e5⟩,e6⟩=>⟨v,y,vs,e1,e2,e3,e4,e5,e6⟩
theorem ok_iter {k:FuncId} {caps:List Operand} (hdst:∀ i,o.dst=some i→i<C.nt) (ho:o.op=.makeFunc (.func k) #[] ⟨caps⟩) {v:ItV} (hv:C.ft.itv k=some v)
  (h:((asArgs (tupT (v.cs.map .ptr)) ((caps.map (opAV C.ft s.slot)).map fun v=>(use v).2)).bindO fun (y,fl)=>(frzB fl).bind fun wl=>.ret (some ⟨usesObL (caps.map (opAV C.ft s.slot)),True,.val (.it v.A) (v.S y),wl⟩):Rd (Option OpRes)).run s.blk=some res):OpOk C o s res:=by
 simp only [Rd.run_bindO,Option.bind_eq_some_iff,Rd.run_bind,Rd.run_ret,Option.some.injEq] at h
 obtain ⟨⟨y,l⟩,hy,rfl⟩:=h
 intro a w κ F Q hr hob _
 obtain ⟨F',f1,hr',f2⟩:=RelK.frzL (asArgs_closed _ hy) hr
 have hargs:RArgs C.P (tupT (v.cs.map .ptr)) F' w (caps.map a.eval) y:=by
  refine asArgs_ok hr.blks f1 _ hy f2 (by simp) fun i hi hi'=>?_
  simp only [List.getElem_map]
  have hi2:i<caps.length:=by simpa using hi'
  have h1:=usesObL_spec hob i (by simpa using hi2)
  have e1:(caps.map (opAV C.ft s.slot)).getD i .undef=opAV C.ft s.slot caps[i]:=by simp [List.getD_eq_getElem?_getD,hi2]
  rw [e1] at h1
  exact use_ok (opAV_ok hr caps[i]) h1
 have hspec:=hr.ftok.itv k v hv
 have hrun:(execOp a.eval o).run C.P w=.ok (.value (.func (.func k) #[] (caps.map a.eval).toArray)) w:=by simp [execOp,ho,Instr.makeFunc]
 refine oper_value (by rw [ho];intro c hc;cases hc) hrun ⟨κ,F',?_⟩
 simp only [AState.app]
 rw [setBs_frz]
 refine RelK.set hr' hdst ((RV_leaf rfl).2 ⟨rfl,_,rfl,⟨rfl,rfl⟩,fun F2 w2 hF2 he2 hs2 hg2 hne=>⟨k,_,rfl,hspec.enter,fun l I Y hY hP hI=>?_⟩⟩)
 exact hspec.calls F2 w2 _ _ hs2 hg2 (hargs.mono hF2 he2) hne l I Y hY hP hI
theorem ok_makeFunc {k:FuncId} {caps:Array Operand} (hdst:∀ i,o.dst=some i→i<C.nt) (ho:o.op=.makeFunc (.func k) #[] caps) (h:(opV0 C.ft T Φ (opAV C.ft s.slot) o).run s.blk=some res):OpOk C o s res:=by
 obtain ⟨caps⟩:=caps
 simp only [opV0,ho,Array.isEmpty_empty,if_true] at h
 split at h
 case h_1 v hv=>exact ok_closure hdst ho hv h
 split at h
 case h_1 v hv=>exact ok_iter hdst ho hv h
 simp only [okRes,Rd.run_ret,Option.some.injEq] at h
 subst h
 refine OpOk.pure (by rw [ho];intro c hc;cases hc) hdst fun a w κ F hr hob _=>?_
 refine ⟨.func (.func k) #[] (caps.map a.eval).toArray,by simp [execOp,ho,Instr.makeFunc],caps.map a.eval,rfl,by simp,fun i hi=>?_⟩
 have hi':i<caps.length:=by simpa using hi
 have h1:(use ((caps.map (opAV C.ft s.slot)).getD i .undef)).1:=usesObL_spec hob i (by simpa using hi)
 have e1:(caps.map (opAV C.ft s.slot)).getD i .undef=opAV C.ft s.slot caps[i]:=by simp [List.getD_eq_getElem?_getD,hi']
 rw [e1] at h1
 have h2:=use_ok (opAV_ok hr caps[i]) h1
 have e2:(caps.map a.eval).getD i Go.undef=a.eval caps[i]:=by simp [List.getD_eq_getElem?_getD,hi']
 have e3:nthAV ((caps.map (opAV C.ft s.slot)).map fun v=>(use v).2) i=(use (opAV C.ft s.slot caps[i])).2:=by simp [nthAV,List.getD_eq_getElem?_getD,hi']
 rw [e2]
 show RA _ _ _ _ _ (nthAV ((caps.map (opAV C.ft s.slot)).map fun v=>(use v).2) i) _
 rw [e3]
 exact h2
theorem ok_method {k:FuncId} {first caps:Array Operand} (hdst:∀ i,o.dst=some i→i<C.nt) (ho:o.op=.makeFunc (.func k) first caps) (hf:first.isEmpty=false) (h:(opV0 C.ft T Φ (opAV C.ft s.slot) o).run s.blk=some res):OpOk C o s res:=by
 obtain ⟨first⟩:=first
 simp only [opV0,ho,hf,Bool.false_eq_true,if_false] at h
 split at h
 ·rename_i hc
  have hc:caps=#[]:=by simpa using hc
  subst hc
  simp only [okRes,Rd.run_ret,Option.some.injEq] at h
  subst h
  refine OpOk.pure (by rw [ho];intro c hc;cases hc) hdst fun a w κ F hr hob _=>?_
  refine ⟨.func (.func k) (first.map a.eval).toArray #[],by simp [execOp,ho,Instr.makeFunc],first.map a.eval,rfl,by simp,fun i hi=>?_⟩
  have hi':i<first.length:=by simpa using hi
  have h1:(use ((first.map (opAV C.ft s.slot)).getD i .undef)).1:=usesObL_spec hob i (by simpa using hi)
  have e1:(first.map (opAV C.ft s.slot)).getD i .undef=opAV C.ft s.slot first[i]:=by simp [List.getD_eq_getElem?_getD,hi']
  rw [e1] at h1
  have h2:=use_ok (opAV_ok hr first[i]) h1
  have e2:(first.map a.eval).getD i Go.undef=a.eval first[i]:=by simp [List.getD_eq_getElem?_getD,hi']
  have e3:nthAV ((first.map (opAV C.ft s.slot)).map fun v=>(use v).2) i=(use (opAV C.ft s.slot first[i])).2:=by simp [nthAV,List.getD_eq_getElem?_getD,hi']
  rw [e2]
  show RA _ _ _ _ _ (nthAV ((first.map (opAV C.ft s.slot)).map fun v=>(use v).2) i) _
  rw [e3]
  exact h2
 ·cases h
def dstOk (o:Oper) (nt:Nat):Bool:=
 (match o.dst with | some d=>decide (d<nt) | none=>true)&&(match o.op with | .store _ _ _=>o.dst.isNone | .mapUpdate _ _ _ _=>o.dst.isNone | .insert _ _ _ _=>o.dst.isNone | _=>true)
theorem opV0_ok (hT:TabOk C.P T) (hΦ:CtrOk C.P Φ) (hd:dstOk o C.nt=true) (h:(opV0 C.ft T Φ (opAV C.ft s.slot) o).run s.blk=some res):OpOk C o s res:=by
 simp only [dstOk,Bool.and_eq_true] at hd
 have hdst:∀ i,o.dst=some i→i<C.nt:=fun i hi=>by
  have:=hd.1
  rw [hi] at this
  simpa using this
 cases ho:o.op with
 | move x=>exact ok_move hdst ho h
 | assign x=>exact ok_assign hdst ho h
 | pick c a b=>exact ok_pick hdst ho h
 | binOp op t x y t'=>exact ok_binOp hT hdst ho h
 | unOp op t x=>exact ok_unOp hdst ho h
 | extract t i=>exact ok_extract hdst ho h
 | nilCheck x=>exact ok_nilCheck hdst ho h
 | fieldAddr t x f=>exact ok_fieldAddr hT hdst ho h
 | field t x f=>exact ok_field hT hdst ho h
 | load t x=>exact ok_load hT hdst ho h
 | store t x y=>
  have:=hd.2
  rw [ho] at this
  exact ok_store hT (by simpa using this) ho h
 | alloc t=>
  by_cases ht:T t=.unit
  ·simp only [opV0,ho,ht] at h
   obtain ⟨_,_,hk⟩:=newB_some h
   simp at hk
  ·exact ok_alloc hT hdst ho h ht
 | box t x=>exact ok_box hT hdst ho h
 | build t ps=>exact ok_build hT hdst ho h
 | buildSlice t n ps=>exact ok_buildSlice hT hdst ho h
 | indexAddr t x i=>exact ok_indexAddr hT hdst ho h
 | index t x i=>exact ok_index hT hdst ho h
 | convert a b x=>exact ok_convert hT hdst ho h
 | makeFunc fn first caps=>
  cases fn with
  | func k=>
   by_cases hf:first=#[]
   ·subst hf;exact ok_makeFunc hdst ho h
   ·exact ok_method hdst ho (by simpa using hf) h
  | _=>simp [opV0,ho,Rd.none] at h
 | makeMap t r=>exact ok_makeMap hdst ho h
 | lookup t m x ok=>exact ok_lookup hT hdst ho h
 | mapUpdate t m x y=>
  have:=hd.2
  rw [ho] at this
  exact ok_mapUpdate hT (by simpa using this) (.inl ho) h
 | insert t m x y=>
  have:=hd.2
  rw [ho] at this
  exact ok_mapUpdate hT (by simpa using this) (.inr ho) h
 | makeSlice t l c=>exact ok_makeSlice hT hdst ho h
 | makeInterface t x=>exact ok_never (by simp [opV0,ho,okRes]) h
 | panic x=>exact ok_never (by simp [opV0,ho,okRes]) h
 | slice t x lo hi mx=>
  cases mx with
  | none=>exact ok_slice hT hdst ho h
  | some m=>exact ok_slice3 hT hdst ho h
 | call c=>
  obtain ⟨callee,args,tys⟩:=c
  cases callee with
  | value f=>
   cases f with
   | func k=>exact ok_callF hΦ hdst ho h
   | _=>simp [opV0,ho,callV,Rd.none] at h
  | invoke r m=>simp [opV0,ho,callV,Rd.none] at h
  | builtin b=>
   cases b with
   | len=>exact ok_len hT hdst ho h
   | append=>
    cases hs:appSame (opAV C.ft s.slot) args.toList with
    | none=>exact ok_append hT hdst ho (by simpa [opV0,ho,callV,hs] using h)
    | some p=>exact ok_appIn hT hdst ho hs (by simpa [opV0,ho,callV,hs] using h)
   | clear=>exact ok_clear hT hdst ho (by simpa [opV0,ho,callV] using h)
   | copy=>exact ok_copy hT hdst ho h
   | min=>exact ok_minmax (.inl ⟨rfl,rfl⟩) hdst ho (by simpa [opV0,ho,callV] using h)
   | max=>exact ok_minmax (.inr ⟨rfl,rfl⟩) hdst ho (by simpa [opV0,ho,callV] using h)
   | cap=>exact ok_cap hT hdst ho (by simpa [opV0,ho,callV] using h)
   | _=>simp [opV0,ho,callV,Rd.none] at h
 | _=>simp [opV0,ho,Rd.none] at h
end
end Go.Fer
namespace Go.Fer
open Go.RowKit
def Rd.All {α:Type} (p:α→Prop):Rd α→Prop
 | .ret a=>p a
 | .get _ k=>∀ x,(k x).All p
theorem Rd.All.run {α:Type} {p:α→Prop} {m:Rd α} (h:m.All p) (H:Nat→ABlk):p (m.run H):=by
 induction m with
 | ret a=>exact h
 | get b k ih=>exact ih _ (h _)
theorem Rd.All.bind {α β:Type} {p:β→Prop} {m:Rd α} {f:α→Rd β} (h:∀ a,(f a).All p):(m.bind f).All p:=by
 induction m with
 | ret a=>exact h a
 | get b k ih=>exact fun x=>ih x
def optP {α:Type} (p:α→Prop) (x:Option α):Prop:=∀ a,x=some a→p a
theorem Rd.All.bindO {α β:Type} {p:β→Prop} {m:Rd (Option α)} {f:α→Rd (Option β)} (h:∀ a,(f a).All (optP p)):(m.bindO f).All (optP p):=by
 refine Rd.All.bind fun a=>?_
 cases a with
 | none=>intro a h;cases h
 | some a=>exact h a
theorem Rd.All.bindO' {α β:Type} {q:α→Prop} {p:β→Prop} {m:Rd (Option α)} {f:α→Rd (Option β)} (hm:m.All (optP q)) (h:∀ a,q a→(f a).All (optP p)):(m.bindO f).All (optP p):=by
 unfold Rd.bindO
 induction m with
 | ret a=>
  cases a with
  | none=>intro b hb;cases hb
  | some a=>exact h a (hm a rfl)
 | get b k ih=>exact fun x=>ih x (hm x)
theorem Rd.All.none' {α:Type} {p:α→Prop}:(Rd.none:Rd (Option α)).All (optP p):=by intro a h;cases h
theorem Rd.All.some' {α:Type} {p:α→Prop} {a:α} (h:p a):(Rd.ret (some a)).All (optP p):=by intro b hb;cases hb;exact h
theorem Rd.All.nil {α:Type} {p:α→Prop}:(Rd.ret (Option.none:Option α)).All (optP p):=by intro b hb;cases hb
theorem Rd.All.okRes {p:OpRes→Prop} {ob c:Prop} {v:AV} (h:p ⟨ob,c,v,[]⟩):(okRes ob c v).All (optP p):=Rd.All.some' h
theorem Rd.All.newB {p:OpRes→Prop} {d:Option Nat} {k:Nat→Nat→Option OpRes} (h:∀ b g,optP p (k b g)):(newB d k).All (optP p):=by
 unfold Go.Fer.newB
 split
 ·exact .none'
 ·exact fun x=>h _ _
def AV.isWhn:AV→Bool
 | .whn _ _=>true
 | _=>false
theorem use_free {a:AV} (h:a.isWhn=false):(use a).1:=by
 cases a<;>first | trivial | cases h
def obF (ρ:Operand→AV) (o:Oper):Bool:=o.op.operands.toList.all fun x=>!(ρ x).isWhn
def AV.noMap:AV→Bool
 | .mapl _ _=>false
 | .val (.map _ _) _=>false
 | _=>true
def cFB (ρ:Operand→AV) (b:Builtin) (args:List Operand):Bool:=
 match b with
 | .len=>match args with
  | [x]=>(use (ρ x)).2.noMap
  | _=>false
 | .min=>true
 | .max=>true
 | _=>false
def cF0 (ρ:Operand→AV) (o:Oper):Bool:=
 match o.op with
 | .move _ | .assign _ | .pick .. | .unOp .. | .extract .. | .fieldAddr .. | .field .. | .load .. | .store .. | .alloc .. | .box .. | .build .. | .buildSlice .. | .convert .. | .makeFunc .. | .makeMap .. | .lookup .. | .mapUpdate .. | .insert ..=>true
 | .binOp op _ x _ _=>match op with
  | .quo | .rem | .shl | .shr=>false
  | .add=>(use (ρ x)).2.int?.isSome
  | _=>true
 | .call c=>match c.callee with
  | .builtin b=>cFB ρ b c.args.toList
  | _=>false
 | _=>false
theorem intOp_c {op:BinOp} {k:IntKind} {a b:Int} {c:Prop} {v:AV} (h:intOp op k a b=some (c,v)) (h1:op≠.quo) (h2:op≠.rem):c:=by
 cases op<;>simp only [intOp,Option.some.injEq,Prod.mk.injEq,reduceCtorEq] at h<;>first | (obtain ⟨rfl,_⟩:=h;trivial) | contradiction
theorem strOp_c {op:BinOp} {a b:List UInt8} {c:Prop} {v:AV} (h:strOp op a b=some (c,v)) (h1:op≠.add):c:=by
 cases op<;>simp only [strOp,Option.some.injEq,Prod.mk.injEq,reduceCtorEq] at h<;>first | (obtain ⟨rfl,_⟩:=h;trivial) | contradiction
theorem eqOp_c {op:BinOp} {t:Ty} {x y:AV}:(eqOp op t x y).All (optP fun r=>r.1):=by
 unfold eqOp
 refine Rd.All.bindO fun e=>?_
 cases op<;>first | exact .some' trivial | exact .nil
section
variable {U:FnTab} {T:Nat→Ty} {Φ:Nat→Option FC} {ρ:Operand→AV} {o:Oper}
theorem binOp_c {op:BinOp} {ty:TypeId} {x y:Operand} {t:TypeId} (ho:o.op=.binOp op ty x y t) (hc:cF0 ρ o=true):(opV0 U T Φ ρ o).All (optP fun r=>r.c):=by
 unfold opV0
 rw [ho]
 simp only
 simp only [cF0,ho] at hc
 split
 ·rename_i k a k' b h1 h2
  split
  ·cases hc
  ·cases hc
  ·split
   ·split
    ·rename_i c v hi
     refine .okRes (intOp_c hi ?_ ?_)<;>(intro e;subst e;simp at hc)
    ·exact .none'
   ·exact .none'
 ·rename_i hno
  split
  ·rename_i a b h1 h2
   split
   ·rename_i c v hi
    refine .okRes (strOp_c hi ?_)
    intro e
    subst e
    simp only at hc
    generalize (use (ρ x)).2=z at hc h1
    cases z<;>try (cases h1;done)
    rename_i t d
    cases t<;>first | (cases h1;done) | (cases hc;done)
   ·exact .none'
  ·exact Rd.All.bindO' eqOp_c fun r hr=>.okRes hr
theorem mapUp_all {p:OpRes→Prop} {ty:TypeId} {m x y:Operand} (h:∀ wl,p ⟨(use (ρ m)).1∧(use (ρ x)).1∧(use (ρ y)).1,True,.undef,wl⟩):(mapUpV T ρ ty m x y).All (optP p):=by
 unfold mapUpV
 split
 ·simp only
  split
  ·split
   ·refine Rd.All.bindO fun _=>Rd.All.bindO fun _=>Rd.All.bind fun _=>fun z=>?_
    intro r hr
    split at hr
    ·split at hr
     ·simp only [Option.map_eq_some_iff] at hr
      obtain ⟨_,_,rfl⟩:=hr
      exact h _
     ·cases hr
    ·cases hr
   ·exact .none'
  ·exact .none'
 ·exact .none'
theorem mapUp_c {ty:TypeId} {m x y:Operand}:(mapUpV T ρ ty m x y).All (optP fun r=>r.c):=mapUp_all fun _=>trivial
theorem opV0_c (hc:cF0 ρ o=true):(opV0 U T Φ ρ o).All (optP fun r=>r.c):=by
 cases ho:o.op with
 | binOp op ty x y t=>exact binOp_c ho hc
 | move x=>unfold opV0;rw [ho];exact .okRes trivial
 | assign x=>
  unfold opV0;rw [ho];simp only
  split
  ·exact .newB fun b g=>fun r hr=>by cases hr;trivial
  ·exact .okRes trivial
 | pick c a b=>
  unfold opV0;rw [ho];simp only
  split
  ·split
   ·split
    ·exact .okRes trivial
    ·exact .none'
   ·split
    ·exact .okRes trivial
    ·exact .none'
   ·exact .none'
  ·exact .none'
 | unOp op t x=>
  unfold opV0;rw [ho];simp only
  split
  ·exact .okRes trivial
  ·exact .okRes trivial
  ·exact .none'
 | extract x i=>
  unfold opV0;rw [ho];simp only
  split
  ·split
   ·exact .okRes trivial
   ·exact .none'
  ·exact .none'
 | fieldAddr ty x f=>
  unfold opV0;rw [ho];simp only
  repeat' first | exact .none' | exact .okRes trivial | split
  all_goals first
   | (intro z;intro r hr;split at hr<;>cases hr;trivial)
 | field ty x f=>
  unfold opV0;rw [ho];simp only
  repeat' first | exact .none' | exact .okRes trivial | split
 | load ty x=>unfold opV0;rw [ho];exact Rd.All.bindO fun _=>.okRes trivial
 | store ty x y=>unfold opV0;rw [ho];exact Rd.All.bindO fun _=>.some' trivial
 | alloc ty=>
  unfold opV0;rw [ho];simp only
  exact .newB fun b g=>fun r hr=>by split at hr<;>cases hr;trivial
 | box ty x=>
  unfold opV0;rw [ho];simp only
  split
  ·exact .newB fun b g=>fun r hr=>by split at hr<;>cases hr;trivial
  ·exact .none'
 | build ty ps=>
  unfold opV0;rw [ho];simp only
  repeat' first | exact .none' | exact .okRes trivial | split
 | buildSlice ty n ps=>
  unfold opV0;rw [ho];simp only
  split
  ·refine Rd.All.bindO fun _=>Rd.All.bind fun _=>.newB fun b g=>fun r hr=>by split at hr<;>cases hr;trivial
  ·exact .none'
 | convert a b x=>
  unfold opV0;rw [ho];simp only
  repeat' first | exact .none' | exact .okRes trivial | exact Rd.All.bindO fun _=>.okRes trivial | split
 | makeFunc fn first caps=>
  unfold opV0;rw [ho];simp only
  split
  ·split
   ·split
    ·exact Rd.All.bindO fun _=>Rd.All.bind fun _=>.some' trivial
    ·split
     ·exact Rd.All.bindO fun _=>Rd.All.bind fun _=>.some' trivial
     ·exact .okRes trivial
   ·split
    ·exact .okRes trivial
    ·exact .none'
  ·exact .none'
 | makeMap ty r=>
  unfold opV0;rw [ho];simp only
  split
  ·exact .none'
  ·split
   ·exact .newB fun b g=>fun r hr=>by cases hr;trivial
   ·exact .none'
 | lookup ty m x ok=>
  unfold opV0;rw [ho];simp only
  unfold lookOpV
  split
  ·simp only
   split
   ·exact Rd.All.bindO fun _=>Rd.All.bindO fun _=>.okRes trivial
   ·exact .none'
  ·exact .none'
 | mapUpdate ty m x y=>
  unfold opV0;rw [ho]
  exact mapUp_c
 | insert ty m x y=>
  unfold opV0;rw [ho]
  exact mapUp_c
 | call c=>
  obtain ⟨callee,args,tys⟩:=c
  simp only [cF0,ho] at hc
  unfold opV0;rw [ho];simp only
  unfold callV
  cases callee with
  | builtin b=>
   simp only at hc ⊢
   cases b with
   | len=>
    simp only [lenOpV]
    split
    ·rename_i x t e1 e2
     simp only [cFB,e1] at hc
     generalize use (ρ x)=u at hc
     obtain ⟨ox,vx⟩:=u
     simp only at hc ⊢
     refine Rd.All.bindO' (q:=fun r:Prop×Int=>r.1) ?_ fun r hr=>.okRes hr
     generalize T t=ty
     cases ty<;>simp only [lenV]<;>first | exact .none' | skip
     ·cases vx<;>first | exact .none' | skip
      ·rename_i t' d
       cases t'<;>first | exact .none' | exact .some' trivial
     ·cases vx<;>first | exact .none' | exact .some' trivial | skip
      ·rename_i t' d
       cases t'<;>first | exact .none' | exact .some' trivial
      ·intro z r hr;split at hr<;>cases hr;trivial
      ·intro z r hr;split at hr<;>cases hr;trivial
     ·cases vx<;>first | exact .none' | (cases hc;done) | skip
      ·rename_i t' d
       cases t'<;>first | exact .none' | cases hc
    ·exact .none'
   | min=>
    simp only [minMaxV]
    split
    ·split
     ·split
      ·exact .okRes trivial
      ·exact .none'
     ·exact .none'
    ·split
     ·split
      ·exact .okRes trivial
      ·exact .none'
     ·exact .none'
    ·exact .none'
   | max=>
    simp only [minMaxV]
    split
    ·split
     ·split
      ·exact .okRes trivial
      ·exact .none'
     ·exact .none'
    ·split
     ·split
      ·exact .okRes trivial
      ·exact .none'
     ·exact .none'
    ·exact .none'
   | _=>simp [cFB] at hc
  | _=>cases hc
 | _=>simp [cF0,ho] at hc
theorem usesObL_free:∀ {l:List AV},(∀ v∈l,(use v).1)→usesObL l
 | [],_=>trivial
 | v::l,h=>by
  have h1:=h v (by simp)
  have h2:=usesObL_free (l:=l) fun u hu=>h u (by simp [hu])
  cases v<;>first | exact h2 | exact ⟨h1,h2⟩
theorem usesOb_free:∀ {l:List (Nat×AV)},(∀ v∈l,(use v.2).1)→usesOb l
 | [],_=>trivial
 | (i,v)::l,h=>by
  have h1:=h (i,v) (by simp)
  have h2:=usesOb_free (l:=l) fun u hu=>h u (by simp [hu])
  cases v<;>first | exact h2 | exact ⟨h1,h2⟩
theorem boundV_free {x:Option Operand} {p:Prop} {n:Option Int} (h:boundV ρ x=some (p,n)) (hx:∀ y,x=some y→(use (ρ y)).1):p:=by
 unfold boundV at h
 split at h
 ·cases h;trivial
 ·rename_i y
  split at h
  ·rename_i o k m hu
   cases h
   have:=hx y rfl
   rw [hu] at this
   exact this
  ·cases h
def UseOk (ρ:Operand→AV) (o:Oper):Prop:=∀ x∈o.op.operands.toList,(use (ρ x)).1
theorem obF_ok {ρ:Operand→AV} {o:Oper} (h:obF ρ o=true):UseOk ρ o:=fun x hx=>use_free (by simpa using List.all_eq_true.1 h x hx)
theorem UseOk.use {ρ:Operand→AV} {o:Oper} (h:UseOk ρ o) {x:Operand} (hx:x∈o.op.operands.toList) {ob:Prop} {v:AV} (hu:use (ρ x)=(ob,v)):ob:=by
 have:=h x hx
 rw [hu] at this
 exact this
theorem opV0_obU (hu1:UseOk ρ o):(opV0 U T Φ ρ o).All (optP fun r=>r.ob):=by
 unfold UseOk at hu1
 have hf:∀ x∈o.op.operands.toList,(use (ρ x)).1:=hu1
 have hu:∀ x∈o.op.operands.toList,∀ {ob:Prop} {v:AV},use (ρ x)=(ob,v)→ob:=fun x hx ob v h=>UseOk.use hu1 hx h
 cases ho:o.op with
 | move x=>unfold opV0;rw [ho];exact .okRes trivial
 | assign x=>
  unfold opV0;rw [ho];simp only
  split
  ·exact .newB fun b g=>fun r hr=>by cases hr;trivial
  ·exact .okRes trivial
 | pick c a b=>
  rw [ho] at hu
  unfold opV0;rw [ho];simp only
  split
  ·rename_i oc cv hcv
   have h1:=hu c (by simp [Op.operands]) hcv
   split
   ·split
    ·rename_i oa av ha
     exact .okRes ⟨h1,fun _=>hu a (by simp [Op.operands]) ha⟩
    ·exact .none'
   ·split
    ·rename_i oa av ha
     exact .okRes ⟨h1,fun _=>hu b (by simp [Op.operands]) ha⟩
    ·exact .none'
   ·exact .none'
  ·exact .none'
 | binOp op ty x y t=>
  rw [ho] at hu1
  have h:=And.intro (hu1 x (by simp [Op.operands])) (hu1 y (by simp [Op.operands]))
  unfold opV0;rw [ho];simp only
  split
  ·split
   ·split
    ·exact .okRes h
    ·exact .none'
   ·split
    ·exact .okRes h
    ·exact .none'
   ·split
    ·split
     ·exact .okRes h
     ·exact .none'
    ·exact .none'
  ·split
   ·split
    ·exact .okRes h
    ·exact .none'
   ·exact Rd.All.bindO fun _=>.okRes h
 | unOp op t x=>
  rw [ho] at hu
  unfold opV0;rw [ho];simp only
  split
  ·rename_i hx;exact .okRes (hu x (by simp [Op.operands]) hx)
  ·rename_i hx;exact .okRes (hu x (by simp [Op.operands]) hx)
  ·exact .none'
 | extract x i=>
  rw [ho] at hu
  unfold opV0;rw [ho];simp only
  split
  ·rename_i hx
   split
   ·exact .okRes (hu x (by simp [Op.operands]) hx)
   ·exact .none'
  ·exact .none'
 | nilCheck x=>
  rw [ho] at hu
  unfold opV0;rw [ho];simp only
  split
  ·rename_i hx;exact .okRes (hu x (by simp [Op.operands]) hx)
  ·rename_i hx;exact .okRes (hu x (by simp [Op.operands]) hx)
  ·rename_i hx
   intro z r hr
   split at hr<;>cases hr
   exact hu x (by simp [Op.operands]) hx
  ·exact .none'
 | fieldAddr ty x f=>
  rw [ho] at hu
  unfold opV0;rw [ho];simp only
  split
  ·split
   ·split
    ·rename_i hx
     intro z r hr
     split at hr<;>cases hr
     exact hu x (by simp [Op.operands]) hx
    ·rename_i hx
     intro z r hr
     split at hr<;>cases hr
     exact hu x (by simp [Op.operands]) hx
    ·rename_i hx
     split
     ·split
      ·exact .okRes (hu x (by simp [Op.operands]) hx)
      ·exact .none'
     ·exact .none'
    ·exact .none'
   ·exact .none'
  ·exact .none'
 | field ty x f=>
  rw [ho] at hu
  unfold opV0;rw [ho];simp only
  split
  ·split
   ·rename_i hx
    split
    ·split
     ·exact .okRes (hu x (by simp [Op.operands]) hx)
     ·exact .none'
    ·exact .none'
   ·exact .none'
  ·exact .none'
 | load ty x=>
  rw [ho] at hu1
  unfold opV0;rw [ho];exact Rd.All.bindO fun _=>.okRes (hu1 x (by simp [Op.operands]))
 | store ty x y=>
  rw [ho] at hu1
  unfold opV0;rw [ho];exact Rd.All.bindO fun _=>.some' ⟨hu1 x (by simp [Op.operands]),hu1 y (by simp [Op.operands])⟩
 | alloc ty=>
  unfold opV0;rw [ho];simp only
  exact .newB fun b g=>fun r hr=>by split at hr<;>cases hr;trivial
 | box ty x=>
  rw [ho] at hu1
  unfold opV0;rw [ho];simp only
  split
  ·exact .newB fun b g=>fun r hr=>by split at hr<;>cases hr;exact hu1 x (by simp [Op.operands])
  ·exact .none'
 | build ty ps=>
  rw [ho] at hf
  have h:usesOb (ps.toList.map fun p=>(p.1,ρ p.2)):=usesOb_free fun v hv=>by
   simp only [List.mem_map] at hv
   obtain ⟨p,hp,rfl⟩:=hv
   exact hf p.2 (by simp only [Op.operands,List.mem_map];exact ⟨p,hp,rfl⟩)
  unfold opV0;rw [ho];simp only
  split
  ·split
   ·exact .okRes h
   ·exact .none'
  ·exact .none'
 | buildSlice ty n ps=>
  rw [ho] at hf
  have h:usesOb (ps.toList.map fun p=>(p.1,ρ p.2)):=usesOb_free fun v hv=>by
   simp only [List.mem_map] at hv
   obtain ⟨p,hp,rfl⟩:=hv
   exact hf p.2 (by simp only [Op.operands,List.mem_map];exact ⟨p,hp,rfl⟩)
  unfold opV0;rw [ho];simp only
  split
  ·refine Rd.All.bindO fun _=>Rd.All.bind fun _=>.newB fun b g=>fun r hr=>by split at hr<;>cases hr;exact h
  ·exact .none'
 | indexAddr ty x i=>
  rw [ho] at hu1
  have h:=And.intro (hu1 x (by simp [Op.operands])) (hu1 i (by simp [Op.operands]))
  unfold opV0;rw [ho];simp only
  split
  ·exact Rd.All.bindO fun _=>.okRes h
  ·split
   ·split
    ·exact .okRes h
    ·exact .none'
   ·intro z r hr
    split at hr<;>cases hr
    exact h
   ·exact .none'
  ·exact .none'
 | index ty x i=>
  rw [ho] at hu1
  have h:=And.intro (hu1 x (by simp [Op.operands])) (hu1 i (by simp [Op.operands]))
  unfold opV0;rw [ho];simp only
  split
  ·exact .okRes h
  ·split
   ·split
    ·exact .okRes h
    ·exact .none'
   ·split
    ·exact .okRes h
    ·exact .none'
   ·exact .none'
  ·exact .none'
 | convert a b x=>
  rw [ho] at hu1
  unfold opV0;rw [ho];simp only
  split
  ·exact .okRes (hu1 x (by simp [Op.operands]))
  ·exact Rd.All.bindO fun _=>.okRes (hu1 x (by simp [Op.operands]))
  ·exact .none'
 | makeFunc fn first caps=>
  rw [ho] at hf
  have h:usesObL (caps.toList.map ρ):=usesObL_free fun v hv=>by
   simp only [List.mem_map] at hv
   obtain ⟨p,hp,rfl⟩:=hv
   exact hf p (by simp [Op.operands];simp_all)
  have h2:usesObL (first.toList.map ρ):=usesObL_free fun v hv=>by
   simp only [List.mem_map] at hv
   obtain ⟨p,hp,rfl⟩:=hv
   exact hf p (by simp [Op.operands];simp_all)
  unfold opV0;rw [ho];simp only
  split
  ·split
   ·split
    ·exact Rd.All.bindO fun _=>Rd.All.bind fun _=>.some' h
    ·split
     ·exact Rd.All.bindO fun _=>Rd.All.bind fun _=>.some' h
     ·exact .okRes h
   ·split
    ·exact .okRes h2
    ·exact .none'
  ·exact .none'
 | slice ty x lo hi mx=>
  rw [ho] at hf hu1
  unfold opV0;rw [ho];simp only
  split
  ·unfold slice3OpV
   simp only
   split
   ·rename_i ol l oh h om m hl hh hm
    have hob:=And.intro (hu1 x (by simp [Op.operands])) (And.intro (boundV_free hl fun y hy=>hf y (by subst hy;simp [Op.operands])) (And.intro (boundV_free hh fun y hy=>hf y (by subst hy;simp [Op.operands])) (boundV_free hm fun y hy=>hf y (by subst hy;simp [Op.operands]))))
    split
    ·exact Rd.All.bindO fun _=>.some' hob
    ·exact .none'
   ·exact .none'
  ·unfold sliceOpV
   simp only
   split
   ·rename_i ol l oh h hl hh
    have hob:=And.intro (hu1 x (by simp [Op.operands])) (And.intro (boundV_free hl fun y hy=>hf y (by subst hy;simp [Op.operands])) (boundV_free hh fun y hy=>hf y (by subst hy;simp [Op.operands])))
    split
    ·exact Rd.All.bindO fun _=>.some' hob
    ·split
     ·exact .okRes hob
     ·exact .none'
    ·exact .none'
   ·exact .none'
 | call c=>
  rw [ho] at hf hu1
  obtain ⟨callee,args,tys⟩:=c
  have hargs:∀ x∈args.toList,(use (ρ x)).1:=fun x hx=>hf x (by simp [Op.operands,Call.operands];simp_all)
  have hargs1:∀ x∈args.toList,(use (ρ x)).1:=hargs
  have hall:usesObL (args.toList.map ρ):=usesObL_free fun v hv=>by
   simp only [List.mem_map] at hv
   obtain ⟨p,hp,rfl⟩:=hv
   exact hargs p hp
  unfold opV0;rw [ho];simp only
  unfold callV
  simp only
  split
  ·split
   ·unfold lenOpV
    split
    ·rename_i x t e1 e2
     exact Rd.All.bindO fun _=>.okRes (hargs1 x (by simp [e1]))
    ·exact .none'
   ·split
    ·unfold appInV
     split
     ·rename_i x y t u e1 e2
      have h:=And.intro (hargs1 x (by simp [e1])) (hargs1 y (by simp [e1]))
      split
      ·simp only
       refine Rd.All.bindO fun _=>fun z=>?_
       intro r hr
       split at hr
       ·split at hr
        ·split at hr
         ·cases hr;exact h
         ·cases hr
        ·cases hr
       ·cases hr
      ·exact .none'
     ·exact .none'
    unfold appendOpV
    split
    ·rename_i x y t u e1 e2
     have h:=And.intro (hargs1 x (by simp [e1])) (hargs1 y (by simp [e1]))
     split
     ·simp only
      unfold appendV
      split
      ·intro z
       dsimp only
       split
       ·split
        ·exact Rd.All.bindO fun _=>.some' h
        ·exact .none'
       ·exact .none'
      ·intro z
       dsimp only
       split
       ·split
        ·exact Rd.All.bindO fun _=>.some' h
        ·exact .none'
       ·exact .none'
      ·exact Rd.All.bindO fun _=>.newB fun b g=>fun r hr=>by cases hr;exact h
      ·split
       ·exact Rd.All.bindO fun _=>.newB fun b g=>fun r hr=>by cases hr;exact h
       ·exact .none'
      ·exact .none'
     ·simp only
      split
      ·unfold appendV
       split
       ·intro z
        dsimp only
        split
        ·split
         ·exact Rd.All.bindO fun _=>.some' h
         ·exact .none'
        ·exact .none'
       ·intro z
        dsimp only
        split
        ·split
         ·exact Rd.All.bindO fun _=>.some' h
         ·exact .none'
        ·exact .none'
       ·exact Rd.All.bindO fun _=>.newB fun b g=>fun r hr=>by cases hr;exact h
       ·split
        ·exact Rd.All.bindO fun _=>.newB fun b g=>fun r hr=>by cases hr;exact h
        ·exact .none'
       ·exact .none'
      ·exact .none'
     ·exact .none'
    ·exact .none'
   ·unfold clearOpV
    split
    ·rename_i x t e1 e2
     have h:=hargs1 x (by simp [e1])
     split
     ·simp only
      split
      ·intro z
       intro r hr
       split at hr
       ·split at hr
        ·split at hr
         ·cases hr;exact h
         ·cases hr
        ·cases hr
       ·cases hr
      ·exact .none'
     ·exact .none'
    ·exact .none'
   ·unfold copyOpV
    split
    ·rename_i x y t u e1 e2
     have h:=And.intro (hargs1 x (by simp [e1])) (hargs1 y (by simp [e1]))
     split
     ·simp only
      split
      ·refine Rd.All.bindO fun _=>fun z=>?_
       intro r hr
       split at hr
       ·split at hr
        ·split at hr
         ·cases hr;exact h
         ·cases hr
        ·cases hr
       ·cases hr
      ·exact .none'
     ·exact .none'
    ·exact .none'
   ·unfold minMaxV
    split
    ·rename_i x y e1
     have h:=And.intro (hargs1 x (by simp [e1])) (hargs1 y (by simp [e1]))
     simp only
     split
     ·split
      ·exact .okRes h
      ·exact .none'
     ·exact .none'
    ·rename_i x y z e1
     have h:=And.intro (hargs1 x (by simp [e1])) (And.intro (hargs1 y (by simp [e1])) (hargs1 z (by simp [e1])))
     simp only
     split
     ·split
      ·exact .okRes h
      ·exact .none'
     ·exact .none'
    ·exact .none'
   ·unfold minMaxV
    split
    ·rename_i x y e1
     have h:=And.intro (hargs1 x (by simp [e1])) (hargs1 y (by simp [e1]))
     simp only
     split
     ·split
      ·exact .okRes h
      ·exact .none'
     ·exact .none'
    ·rename_i x y z e1
     have h:=And.intro (hargs1 x (by simp [e1])) (And.intro (hargs1 y (by simp [e1])) (hargs1 z (by simp [e1])))
     simp only
     split
     ·split
      ·exact .okRes h
      ·exact .none'
     ·exact .none'
    ·exact .none'
   ·unfold capOpV
    split
    ·rename_i x t e1 e2
     have h:=hargs1 x (by simp [e1])
     split
     ·rename_i e3
      exact .okRes (by rw [e3] at h;exact h)
     ·exact .none'
    ·exact .none'
   ·exact .none'
  ·split
   ·unfold callFV
    simp only
    split
    ·exact Rd.All.bindO fun _=>Rd.All.bind fun _=>.some' hall
    ·exact .none'
   ·exact .none'
  ·exact .none'
 | makeMap ty r=>
  unfold opV0;rw [ho];simp only
  split
  ·exact .none'
  ·split
   ·exact .newB fun b g=>fun r hr=>by cases hr;trivial
   ·exact .none'
 | lookup ty m x ok=>
  rw [ho] at hu1
  have h:=And.intro (hu1 m (by simp [Op.operands])) (hu1 x (by simp [Op.operands]))
  unfold opV0;rw [ho];simp only
  unfold lookOpV
  split
  ·simp only
   split
   ·exact Rd.All.bindO fun _=>Rd.All.bindO fun _=>.okRes h
   ·exact .none'
  ·exact .none'
 | mapUpdate ty m x y=>
  rw [ho] at hu1
  unfold opV0;rw [ho]
  exact mapUp_all fun _=>⟨hu1 m (by simp [Op.operands]),hu1 x (by simp [Op.operands]),hu1 y (by simp [Op.operands])⟩
 | insert ty m x y=>
  rw [ho] at hu1
  unfold opV0;rw [ho]
  exact mapUp_all fun _=>⟨hu1 m (by simp [Op.operands]),hu1 x (by simp [Op.operands]),hu1 y (by simp [Op.operands])⟩
 | makeSlice ty l c=>
  rw [ho] at hu1
  have h:=And.intro (hu1 l (by simp [Op.operands])) (hu1 c (by simp [Op.operands]))
  unfold opV0;rw [ho];simp only
  unfold makeSlV
  split
  ·simp only
   split
   ·exact .newB fun b g=>fun r hr=>by cases hr;exact h
   ·exact .none'
  ·exact .none'
 | makeInterface t x=>unfold opV0;rw [ho];exact .okRes trivial
 | panic x=>unfold opV0;rw [ho];exact .okRes trivial
 | _=>unfold opV0;rw [ho];exact .none'
end
end Go.Fer
namespace Go.Fer
open Go.RowKit
section
variable {U:FnTab} {T:Nat→Ty} {Φ:Nat→Option FC} {ρ ρ':Operand→AV} {o:Oper}
theorem boundV_congr {x:Option Operand} (h:∀ y,x=some y→ρ y=ρ' y):boundV ρ x=boundV ρ' x:=by
 cases x with
 | none=>rfl
 | some y=>have:=h y rfl;unfold boundV;simp only [this]
theorem opV0_congr (h:∀ x∈o.op.operands.toList,ρ x=ρ' x):opV0 U T Φ ρ o=opV0 U T Φ ρ' o:=by
 cases ho:o.op with
 | move x=>rw [ho] at h;have h1:=h x (by simp [Op.operands]);unfold opV0;rw [ho];simp only [h1]
 | assign x=>rw [ho] at h;have h1:=h x (by simp [Op.operands]);unfold opV0;rw [ho];simp only [h1]
 | pick c a b=>
  rw [ho] at h
  have h1:=h c (by simp [Op.operands]);have h2:=h a (by simp [Op.operands]);have h3:=h b (by simp [Op.operands])
  unfold opV0;rw [ho];simp only [h1,h2,h3]
 | binOp op ty x y t=>
  rw [ho] at h
  have h1:=h x (by simp [Op.operands]);have h2:=h y (by simp [Op.operands])
  unfold opV0;rw [ho];simp only [h1,h2]
 | unOp op t x=>rw [ho] at h;have h1:=h x (by simp [Op.operands]);unfold opV0;rw [ho];simp only [h1]
 | extract x i=>rw [ho] at h;have h1:=h x (by simp [Op.operands]);unfold opV0;rw [ho];simp only [h1]
 | nilCheck x=>rw [ho] at h;have h1:=h x (by simp [Op.operands]);unfold opV0;rw [ho];simp only [h1]
 | fieldAddr ty x f=>rw [ho] at h;have h1:=h x (by simp [Op.operands]);unfold opV0;rw [ho];simp only [h1]
 | field ty x f=>rw [ho] at h;have h1:=h x (by simp [Op.operands]);unfold opV0;rw [ho];simp only [h1]
 | load ty x=>rw [ho] at h;have h1:=h x (by simp [Op.operands]);unfold opV0;rw [ho];simp only [h1]
 | store ty x y=>
  rw [ho] at h
  have h1:=h x (by simp [Op.operands]);have h2:=h y (by simp [Op.operands])
  unfold opV0;rw [ho];simp only [h1,h2]
 | alloc ty=>unfold opV0;rw [ho]
 | box ty x=>rw [ho] at h;have h1:=h x (by simp [Op.operands]);unfold opV0;rw [ho];simp only [h1]
 | build ty ps=>
  rw [ho] at h
  have h1:ps.toList.map (fun p=>(p.1,ρ p.2))=ps.toList.map (fun p=>(p.1,ρ' p.2)):=List.map_congr_left fun p hp=>by rw [h p.2 (by simp only [Op.operands,List.mem_map];exact ⟨p,hp,rfl⟩)]
  unfold opV0;rw [ho];simp only [h1]
 | buildSlice ty n ps=>
  rw [ho] at h
  have h1:ps.toList.map (fun p=>(p.1,ρ p.2))=ps.toList.map (fun p=>(p.1,ρ' p.2)):=List.map_congr_left fun p hp=>by rw [h p.2 (by simp only [Op.operands,List.mem_map];exact ⟨p,hp,rfl⟩)]
  unfold opV0;rw [ho];simp only [h1]
 | indexAddr ty x i=>
  rw [ho] at h
  have h1:=h x (by simp [Op.operands]);have h2:=h i (by simp [Op.operands])
  unfold opV0;rw [ho];simp only [h1,h2]
 | index ty x i=>
  rw [ho] at h
  have h1:=h x (by simp [Op.operands]);have h2:=h i (by simp [Op.operands])
  unfold opV0;rw [ho];simp only [h1,h2]
 | convert a b x=>rw [ho] at h;have h1:=h x (by simp [Op.operands]);unfold opV0;rw [ho];simp only [h1]
 | makeFunc fn first caps=>
  rw [ho] at h
  have h1:caps.toList.map ρ=caps.toList.map ρ':=List.map_congr_left fun p hp=>h p (by simp [Op.operands];simp_all)
  have h2:first.toList.map ρ=first.toList.map ρ':=List.map_congr_left fun p hp=>h p (by simp [Op.operands];simp_all)
  unfold opV0;rw [ho];simp only [h1,h2]
 | lookup ty m x ok=>
  rw [ho] at h
  have h1:=h m (by simp [Op.operands]);have h2:=h x (by simp [Op.operands])
  unfold opV0;rw [ho];simp only [lookOpV,h1,h2]
 | mapUpdate ty m x y=>
  rw [ho] at h
  have h1:=h m (by simp [Op.operands]);have h2:=h x (by simp [Op.operands]);have h3:=h y (by simp [Op.operands])
  unfold opV0;rw [ho];simp only [mapUpV,h1,h2,h3]
 | insert ty m x y=>
  rw [ho] at h
  have h1:=h m (by simp [Op.operands]);have h2:=h x (by simp [Op.operands]);have h3:=h y (by simp [Op.operands])
  unfold opV0;rw [ho];simp only [mapUpV,h1,h2,h3]
 | makeSlice ty l c=>
  rw [ho] at h
  have h1:=h l (by simp [Op.operands]);have h2:=h c (by simp [Op.operands])
  unfold opV0;rw [ho];simp only [makeSlV,h1,h2]
 | slice ty x lo hi mx=>
  rw [ho] at h
  have h1:=h x (by simp [Op.operands])
  have h2:boundV ρ lo=boundV ρ' lo:=boundV_congr fun y hy=>h y (by subst hy;simp [Op.operands])
  have h3:boundV ρ hi=boundV ρ' hi:=boundV_congr fun y hy=>h y (by subst hy;simp [Op.operands])
  have h4:boundV ρ mx=boundV ρ' mx:=boundV_congr fun y hy=>h y (by subst hy;simp [Op.operands])
  unfold opV0;rw [ho];simp only [sliceOpV,slice3OpV,h1,h2,h3,h4]
 | call c=>
  rw [ho] at h
  obtain ⟨callee,args,tys⟩:=c
  have hargs:∀ x∈args.toList,ρ x=ρ' x:=fun x hx=>h x (by simp [Op.operands,Call.operands];simp_all)
  have hl:args.toList.map ρ=args.toList.map ρ':=List.map_congr_left hargs
  unfold opV0;rw [ho];simp only
  unfold callV
  simp only
  split
  ·split
   ·unfold lenOpV
    split
    ·rename_i x t e1 e2
     rw [hargs x (by simp [e1])]
    ·rfl
   ·have hsame:appSame ρ args.toList=appSame ρ' args.toList:=by
     unfold appSame
     split
     ·rename_i x y e1
      rw [hargs x (by simp [e1]),hargs y (by simp [e1])]
     ·rfl
    rw [hsame]
    split
    ·unfold appInV
     split
     ·rename_i x y t u e1 e2
      rw [hargs x (by simp [e1]),hargs y (by simp [e1])]
     ·rfl
    ·unfold appendOpV
     split
     ·rename_i x y t u e1 e2
      rw [hargs x (by simp [e1]),hargs y (by simp [e1])]
     ·rfl
   ·unfold clearOpV
    split
    ·rename_i x t e1 e2
     rw [hargs x (by simp [e1])]
    ·rfl
   ·unfold copyOpV
    split
    ·rename_i x y t u e1 e2
     rw [hargs x (by simp [e1]),hargs y (by simp [e1])]
    ·rfl
   ·unfold minMaxV
    split
    ·rename_i x y e1
     rw [hargs x (by simp [e1]),hargs y (by simp [e1])]
    ·rename_i x y z e1
     rw [hargs x (by simp [e1]),hargs y (by simp [e1]),hargs z (by simp [e1])]
    ·rfl
   ·unfold minMaxV
    split
    ·rename_i x y e1
     rw [hargs x (by simp [e1]),hargs y (by simp [e1])]
    ·rename_i x y z e1
     rw [hargs x (by simp [e1]),hargs y (by simp [e1]),hargs z (by simp [e1])]
    ·rfl
   ·unfold capOpV
    split
    ·rename_i x t e1 e2
     rw [hargs x (by simp [e1])]
    ·rfl
   ·rfl
  ·split
   ·unfold callFV
    simp only [hl]
   ·rfl
  ·rfl
 | _=>unfold opV0;rw [ho]
end
end Go.Fer
