/- Part 2 of the proof of HireOrder: shallow programs of Go functions, and what they compute. No condition. -/
import Derived.Test.YtjacmbbmcjdphaaGreatHireOrderA
noncomputable section
namespace Go.Fer
open Go.RowKit
theorem add_addr' {p:Addr} (h:p.spot=none) (n:Nat):p.add n=⟨p.block,p.off+n,none⟩:=by
 obtain ⟨b,o,sp⟩:=p
 simp only at h
 subst h
 exact add_addr b o n
theorem nth_eq {e:Ty} {xs:List e.Den} {i:Int} (h1:0≤i) (h2:i<(xs.length:Int)):nth e xs i=xs[i.toNat]'(by omega):=by
 unfold nth
 simp [List.getD_eq_getElem?_getD,show i.toNat<xs.length by omega]
section
variable {C:Ctx} {T:Nat→Ty} {Φ:Nat→Option FC} {o:Oper} {s:AState} {res:OpRes}
theorem indexAt_run {P:Program} {w:World} {e:Ty} {ty:TypeId} (h:TyIs P (.slice e) ty) {p:Addr} (hp:p.spot=none) {n cap:Nat} {k:IntKind} {i:Int} (h1:0≤i) (h2:i<(n:Int)) :
  (Instr.indexAt ty (.slice (some p) n cap) (.int k i)).run P w=.ok (.pointer (some ⟨p.block,p.off+i.toNat*e.size,none⟩)) w:=by
 obtain ⟨j,hj,hj2,_⟩:=h.sl
 simp [Instr.indexAt,asIntOf,run_underlying' hj,h1,h2,hj2.size,add_addr' hp]
theorem ok_indexAddr (hT:TabOk C.P T) {ty:TypeId} {x i:Operand} (hdst:∀ i,o.dst=some i→i<C.nt) (ho:o.op=.indexAddr ty x i) (h:(opV C.ft T Φ (opAV C.ft s.slot) o).run s.blk=some res):OpOk C o s res:=by
 simp only [opV,ho] at h
 split at h
 ·rename_i e0 k n ht hi
  have hti:=hT.is ht (by simp)
  simp only [okRes,Rd.run_bindO,Option.bind_eq_some_iff,Rd.run_ret,Option.some.injEq] at h
  obtain ⟨⟨c,v⟩,hiv,rfl⟩:=h
  refine OpOk.pure (by rw [ho];intro c hc;cases hc) hdst fun a w κ F hr hob hc=>?_
  have hx:RA C.P s.blk κ F w (use (opAV C.ft s.slot x)).2 (a.eval x):=use_op hr x rfl hob.1
  have h2:=int?_ok (use_op hr i rfl hob.2) hi
  have per:∀ (xs:List e0.Den),RC C.P (.slice e0) F w [a.eval x] xs→0≤n∧n<(xs.length:Int)→∃ r,(execOp a.eval o).run C.P w=.ok (.value r) w∧RA C.P s.blk κ F w (.pp e0 (nth e0 xs n)) r:=by
   intro xs hxs hn
   obtain ⟨a',cap,e1,m1,m2,m3,m4⟩:=hxs
   have e1:=(List.cons.inj e1).1
   cases a' with
   | none=>have:=m3 rfl;omega
   | some p=>
    obtain ⟨n1,n2,n3⟩:=m4 p rfl (by omega)
    obtain ⟨ds,d1,d2⟩:=n3 n.toNat (by omega)
    refine ⟨_,by simp [execOp,ho,e1,h2.1,indexAt_run hti n2 hn.1 hn.2],⟨p.block,p.off+n.toNat*e0.size,none⟩,ds,rfl,d1,?_⟩
    rw [nth_eq hn.1 hn.2]
    exact d2
  unfold indexV at hiv
  split at hiv
  ·rename_i e xs hxe
   simp only [Rd.run_ret] at hiv
   split at hiv
   ·rename_i he
    subst he
    simp only [Option.some.injEq,Prod.mk.injEq] at hiv
    obtain ⟨rfl,rfl⟩:=hiv
    rw [hxe] at hx
    exact per xs ((RV_leaf rfl).1 hx).2 hc
   ·cases hiv
  ·rename_i b g hxe
   rw [hxe] at hx
   simp only [Rd.run_get,Rd.run_ret] at hiv
   split at hiv
   ·rename_i hg
    have hB:=hr.blks b
    unfold HB at hB
    split at hiv
    ·rename_i e xs hbody
     split at hiv
     ·rename_i he
      subst he
      simp only [Option.some.injEq,Prod.mk.injEq] at hiv
      obtain ⟨rfl,rfl⟩:=hiv
      have hv:=hx.2 hg.symm (by rw [hbody];rfl)
      rw [hbody] at hv hB
      have hnil:(κ b).isNil=false:=by
       cases hn:(κ b).isNil with
       | false=>rfl
       | true=>rw [hB.1 hn] at hc;simp at hc;omega
      simp only [KB.slice,hnil,Bool.false_eq_true,if_false,Body.len] at hv
      refine ⟨_,by simp [execOp,ho,hv,h2.1,indexAt_run hti (p:=⟨(κ b).blk,(κ b).off,none⟩) rfl hc.1 hc.2];rfl,⟨hx.1.1,rfl⟩,fun _ _=>?_⟩
      rw [hbody]
      exact ⟨by simp only [Body.len];omega,hnil,rfl⟩
     ·cases hiv
    ·rename_i e xs hbody
     split at hiv
     ·rename_i he
      subst he
      simp only [Option.some.injEq,Prod.mk.injEq] at hiv
      obtain ⟨rfl,rfl⟩:=hiv
      have hv:=hx.2 hg.symm (by rw [hbody];rfl)
      rw [hbody] at hv hB
      simp only [Body.len] at hv
      refine per xs ?_ hc
      rw [hv]
      exact hB
     ·cases hiv
    ·cases hiv
   ·cases hiv
  ·rename_i b g lo hi hxe
   rw [hxe] at hx
   simp only [Rd.run_get,Rd.run_ret] at hiv
   split at hiv
   ·rename_i hg
    have hB:=hr.blks b
    unfold HB at hB
    split at hiv
    ·rename_i e xs hbody
     split at hiv
     ·rename_i he
      subst he
      simp only [Option.some.injEq,Prod.mk.injEq] at hiv
      obtain ⟨rfl,rfl⟩:=hiv
      obtain ⟨⟨k1,k2⟩,k3⟩:=hx.2 hg.symm (by rw [hbody];rfl)
      rw [hbody] at k2 k3 hB
      simp only [Body.len,Body.esz] at k2 k3
      rcases k3 with ⟨hn,_⟩ | ⟨hn,oo,hv,o1,o2⟩
      ·rw [hB.1 hn] at k2;simp at k2;omega
      ·obtain ⟨cs,T',c1,c2,c3,c4,c5⟩:=hB.2 hn
       refine ⟨_,by simp [execOp,ho,hv,h2.1,indexAt_run hti (p:=⟨(κ b).blk,oo,none⟩) rfl hc.1 hc.2];rfl,⟨hx.1.1,rfl⟩,fun _ _=>?_⟩
       rw [hbody]
       refine ⟨by simp only [Body.len];omega,hn,?_⟩
       rw [o2 (by omega)]
       simp only [Body.esz,Nat.add_mul]
       congr 3
       omega
     ·cases hiv
    ·rename_i e xs hbody
     split at hiv
     ·rename_i he
      subst he
      simp only [Option.some.injEq,Prod.mk.injEq] at hiv
      obtain ⟨rfl,rfl⟩:=hiv
      obtain ⟨⟨k1,k2⟩,k3⟩:=hx.2 hg.symm (by rw [hbody];rfl)
      rw [hbody] at k2 k3 hB
      simp only [Body.len,Body.esz] at k2 k3
      have hlen:((xs.take hi).drop lo).length=hi - lo:=by simp;omega
      obtain ⟨r,r1,r2⟩:=per ((xs.take hi).drop lo) (sub_of_slice hB k1 k2 k3) (by rw [hlen];exact hc)
      refine ⟨r,r1,?_⟩
      have e1:nth e ((xs.take hi).drop lo) n=nth e xs ((lo:Int)+n):=by
       rw [nth_eq hc.1 (by rw [hlen];exact hc.2),nth_eq (by omega) (by omega)]
       have:((lo:Int)+n).toNat=lo+n.toNat:=by omega
       simp [this]
      rw [e1] at r2
      exact r2
     ·cases hiv
    ·cases hiv
   ·cases hiv
  ·simp only [Rd.run_ret,Option.some.injEq,Prod.mk.injEq] at hiv
   obtain ⟨rfl,rfl⟩:=hiv
   exact hc.elim
  ·cases hiv
 ·rename_i m e0 k n ht hi
  split at h
  ·rename_i m' e' xs hxe
   split at h
   ·rename_i he
    obtain ⟨rfl,rfl⟩:=he
    simp only [okRes,Rd.run_ret,Option.some.injEq] at h
    subst h
    refine OpOk.pure (by rw [ho];intro c hc;cases hc) hdst fun a w κ F hr hob hc=>?_
    have hx:RA C.P s.blk κ F w (use (opAV C.ft s.slot x)).2 (a.eval x):=use_op hr x rfl hob.1
    rw [hxe] at hx
    have h2:=int?_ok (use_op hr i rfl hob.2) hi
    obtain ⟨j,hj,hje,_⟩:=(hT.is ht (by simp)).arr
    obtain ⟨p,ds,hv,hh,hrc⟩:=hx
    obtain ⟨c1,c2,c3,rfl,e2,e3⟩:=RC_arr_at hrc (i:=n.toNat) (by omega)
    refine ⟨.pointer (some ⟨p.block,p.off+n.toNat*e'.size,none⟩),?_,⟨p.block,p.off+n.toNat*e'.size,none⟩,c2,rfl,⟨hh.1,rfl,fun q hq=>?_⟩,e3⟩
    ·simp [execOp,ho,Instr.indexAt,hv,h2.1,asIntOf,run_underlying' hj,hc.1,hc.2,hje.size,add_addr' hh.2.1,Instr.sureAddr]
    ·have:=hh.2.2 (c1.length+q) (by simp;omega)
     rw [show p.off+(c1.length+q)=p.off+c1.length+q from by omega] at this
     show w.cell? ⟨p.block,p.off+n.toNat*e'.size+q,none⟩=_
     rw [←e2]
     simpa [List.getElem_append_right,List.getElem_append_left,hq] using this
   ·cases h
  ·rename_i b g off hxe
   simp only [Rd.run_get,Rd.run_ret] at h
   split at h
   ·rename_i hz
    simp only [Bool.and_eq_true,decide_eq_true_eq] at hz
    simp only [Option.some.injEq] at h
    subst h
    refine OpOk.pure (by rw [ho];intro c hc;cases hc) hdst fun a w κ F hr hob hc=>?_
    have h1:RA C.P s.blk κ F w (use (opAV C.ft s.slot x)).2 (a.eval x):=use_op hr x rfl hob.1
    rw [hxe] at h1
    have h2:=int?_ok (use_op hr i rfl hob.2) hi
    have h3:=h1.2 hz.1.symm hz.2
    obtain ⟨j,hj,hje,_⟩:=(hT.is ht (by simp)).arr
    exact ⟨_,by simp [execOp,ho,Instr.indexAt,h3,h2.1,asIntOf,run_underlying' hj,hc.1,hc.2,hje.size,add_addr' (p:=⟨(κ b).blk,off,none⟩) rfl,Instr.sureAddr],⟨h1.1.1,rfl⟩,fun _ _=>rfl⟩
   ·cases h
  ·cases h
 ·cases h
theorem boundV_ok {a:Act} {w:World} {κ:Nat→KB} {F:Nat→Prop} (hr:RelK C s a w κ F) {x:Option Operand} {p:Prop} {n:Option Int} (h:boundV (opAV C.ft s.slot) x=some (p,n)) (hp:p) :
  (x=none∧n=none)∨∃ y k m,x=some y∧n=some m∧a.eval y=.int k m:=by
 cases x with
 | none=>simp only [boundV,Option.some.injEq,Prod.mk.injEq] at h;exact .inl ⟨rfl,h.2.symm⟩
 | some y=>
  simp only [boundV] at h
  split at h
  ·rename_i q k m hu
   simp only [Option.some.injEq,Prod.mk.injEq] at h
   obtain ⟨rfl,rfl⟩:=h
   exact .inr ⟨y,k,m,rfl,rfl,(RV_int.1 (use_op hr y hu hp)).1⟩
  ·cases h
theorem bounds_run {P:Program} {w:World} {isS:Bool} {len cap:Nat} {lo hi:Option Value} {l h:Option Int} (hl:(lo=none∧l=none)∨∃ k m,lo=some (.int k m)∧l=some m) (hh:(hi=none∧h=none)∨∃ k m,hi=some (.int k m)∧h=some m)
  (h1:0≤loB l) (h2:loB l≤hiB len h) (h3:hiB len h≤(cap:Int)) (_h4:len≤cap):(Instr.sliceBounds isS len cap lo hi none).run P w=.ok ((loB l).toNat,(hiB len h).toNat,cap) w:=by
 rcases hl with ⟨rfl,rfl⟩ | ⟨k,m,rfl,rfl⟩<;>rcases hh with ⟨rfl,rfl⟩ | ⟨k',m',rfl,rfl⟩<;>simp only [loB,hiB] at h1 h2 h3 ⊢
 ·simp [Instr.sliceBounds]
 ·have:0≤m'∧m'≤(cap:Int):=by omega
  simp [Instr.sliceBounds,Instr.sliceBound,asIntOf,this]
 ·have:0≤m∧m≤(len:Int):=by omega
  simp [Instr.sliceBounds,Instr.sliceBound,asIntOf,this]
 ·have e1:0≤m'∧m'≤(cap:Int):=by omega
  have e2:0≤m∧m≤m':=by omega
  have e3:max m' 0=m':=by omega
  simp [Instr.sliceBounds,Instr.sliceBound,asIntOf,e1,e2,e3]
theorem subLim_le {l h:Option Int} {n m:Nat} (hnm:n≤m):subLim l h n m≤m:=by
 unfold subLim
 split
 ·exact Nat.le_refl _
 ·exact hnm
theorem ok_slice (hT:TabOk C.P T) {ty:TypeId} {x:Operand} {lo hi:Option Operand} (hdst:∀ i,o.dst=some i→i<C.nt) (ho:o.op=.slice ty x lo hi none) (h:(opV C.ft T Φ (opAV C.ft s.slot) o).run s.blk=some res):OpOk C o s res:=by
 simp only [opV,ho,Option.isSome_none,Bool.false_eq_true,if_false,sliceOpV] at h
 split at h
 ·rename_i ol l oh hh' hlo hhi
  have hd:∀ c,o.op≠.defer c:=by rw [ho];intro c hc;cases hc
  have bnd:∀ (a:Act) (w:World) κ F,RelK C s a w κ F→ol→oh→((lo.map a.eval=none∧l=none)∨∃ k m,lo.map a.eval=some (.int k m)∧l=some m)∧((hi.map a.eval=none∧hh'=none)∨∃ k m,hi.map a.eval=some (.int k m)∧hh'=some m):=by
   intro a w κ F hr hol hoh
   constructor
   ·rcases boundV_ok hr hlo hol with ⟨rfl,rfl⟩ | ⟨y,k,m,rfl,rfl,e⟩
    ·exact .inl ⟨rfl,rfl⟩
    ·exact .inr ⟨k,m,by simp [e],rfl⟩
   ·rcases boundV_ok hr hhi hoh with ⟨rfl,rfl⟩ | ⟨y,k,m,rfl,rfl,e⟩
    ·exact .inl ⟨rfl,rfl⟩
    ·exact .inr ⟨k,m,by simp [e],rfl⟩
  split at h
  ·rename_i e0 ht
   have hti:=hT.is ht (by simp)
   obtain ⟨j,hj,hj2,hj3⟩:=hti.sl
   simp only [Rd.run_bindO,Option.bind_eq_some_iff] at h
   obtain ⟨⟨c,v⟩,hsv,h⟩:=h
   simp only [okRes,Rd.run_ret,Option.some.injEq] at h
   subst h
   have runs:∀ (a:Act) (w:World) κ F,RelK C s a w κ F→ol→oh→∀ (q:Option Addr) (n cap:Nat),a.eval x=.slice q n cap→n≤cap→0≤loB l∧loB l≤hiB n hh'∧hiB n hh'≤(cap:Int)→
     (execOp a.eval o).run C.P w=.ok (.value (.slice (if cap=(loB l).toNat then q else q.map (·.add ((loB l).toNat*e0.size))) ((hiB n hh').toNat - (loB l).toNat) (cap - (loB l).toNat))) w:=by
    intro a w κ F hr hol hoh q n cap hv hn hc
    obtain ⟨b1,b2⟩:=bnd a w κ F hr hol hoh
    have:=bounds_run (P:=C.P) (w:=w) (isS:=true) b1 b2 hc.1 hc.2.1 hc.2.2 hn
    simp [execOp,ho,hv,Instr.sliceAt,Instr.slice,run_underlying' hj,this,hj2.size]
   unfold sliceV at hsv
   split at hsv
   ·rename_i e xs hxe
    simp only [Rd.run_ret] at hsv
    split at hsv
    ·rename_i he
     subst he
     simp only [Option.some.injEq,Prod.mk.injEq] at hsv
     obtain ⟨rfl,rfl⟩:=hsv
     refine OpOk.pure hd hdst fun a w κ F hr hob hc=>?_
     have hx:RA C.P s.blk κ F w (use (opAV C.ft s.slot x)).2 (a.eval x):=use_op hr x rfl hob.1
     rw [hxe] at hx
     obtain ⟨_,a',cap,e1,m1,m2,m3,m4⟩:=(RV_leaf rfl).1 hx
     have e1:=(List.cons.inj e1).1
     refine ⟨_,runs a w κ F hr hob.2.1 hob.2.2 a' xs.length cap e1 m1 ⟨hc.1,hc.2.1,by have:=hc.2.2;omega⟩,(RV_leaf rfl).2 ⟨rfl,?_⟩⟩
     have hlen:((xs.take (hiB xs.length hh').toNat).drop (loB l).toNat).length=(hiB xs.length hh').toNat - (loB l).toNat:=by
      simp
      omega
     refine ⟨_,_,by rw [hlen],by rw [hlen];omega,by omega,?_,fun p hp hc0=>?_⟩
     ·intro hn
      split at hn
      ·have:=m3 hn;omega
      ·cases a' with
       | none=>have:=m3 rfl;omega
       | some q=>cases hn
     ·cases a' with
      | none=>split at hp<;>cases hp
      | some q=>
       obtain ⟨n1,n2,n3⟩:=m4 q rfl (by omega)
       have hq:∃ d,p=⟨q.block,q.off+d,none⟩∧(d=(loB l).toNat*e.size∨cap=(loB l).toNat):=by
        split at hp
        ·rename_i hcap
         have hp:=Option.some.inj hp
         subst hp
         exact ⟨0,by cases q;simp_all,.inr hcap⟩
        ·simp only [Option.map_some,Option.some.injEq] at hp
         rw [add_addr' n2] at hp
         exact ⟨_,hp.symm,.inl rfl⟩
       obtain ⟨d,rfl,hd'⟩:=hq
       refine ⟨n1,rfl,fun i hi=>?_⟩
       rw [hlen] at hi
       obtain ⟨ds,d1,d2⟩:=n3 ((loB l).toNat+i) (by omega)
       rcases hd' with rfl | hcap
       ·refine ⟨ds,⟨d1.1,rfl,fun k hk=>?_⟩,?_⟩
        ·have:=d1.2.2 k hk
         rw [Nat.add_mul] at this
         rw [show q.off+(loB l).toNat*e.size+i*e.size=q.off+((loB l).toNat*e.size+i*e.size) from by omega]
         exact this
        ·have e2:((xs.take (hiB xs.length hh').toNat).drop (loB l).toNat)[i]'(by rw [hlen];exact hi)=xs[(loB l).toNat+i]'(by omega):=by simp
         rw [e2];exact d2
       ·omega
    ·cases hsv
   ·rename_i hxe
    simp only [Rd.run_ret,Option.some.injEq,Prod.mk.injEq] at hsv
    obtain ⟨rfl,rfl⟩:=hsv
    refine OpOk.pure hd hdst fun a w κ F hr hob hc=>?_
    have hx:RA C.P s.blk κ F w (use (opAV C.ft s.slot x)).2 (a.eval x):=use_op hr x rfl hob.1
    rw [hxe] at hx
    simp only [RA] at hx
    have hc':0≤loB l∧loB l≤hiB 0 hh'∧hiB 0 hh'≤((0:Nat):Int):=hc
    have hrun:=runs a w κ F hr hob.2.1 hob.2.2 none 0 0 hx (Nat.le_refl _) hc'
    have h0:(hiB 0 hh').toNat=0:=by omega
    rw [h0] at hrun
    refine ⟨_,hrun,?_⟩
    simp only [RA]
    split<;>simp
   ·rename_i b g hxe
    simp only [Rd.run_get,Rd.run_ret] at hsv
    split at hsv
    ·rename_i hz
     simp only [Bool.and_eq_true,decide_eq_true_eq,beq_iff_eq] at hz
     obtain ⟨⟨hg,harr⟩,hesz⟩:=hz
     simp only [Option.some.injEq,Prod.mk.injEq] at hsv
     obtain ⟨rfl,rfl⟩:=hsv
     refine OpOk.pure hd hdst fun a w κ F hr hob hc=>?_
     have hx:RA C.P s.blk κ F w (use (opAV C.ft s.slot x)).2 (a.eval x):=use_op hr x rfl hob.1
     rw [hxe] at hx
     have hv:=hx.2 hg.symm harr
     obtain ⟨n1,n2⟩:=arr_nil hr harr
     cases hn:(κ b).isNil with
     | true=>
      have h0:=n1 hn
      simp only [KB.slice,hn,if_true] at hv
      rw [h0] at hc
      have hrun:=runs a w κ F hr hob.2.1 hob.2.2 none 0 0 hv (Nat.le_refl _) hc
      refine ⟨_,hrun,⟨hx.1.1,by split<;>rfl⟩,fun _ _=>⟨by rw [h0];omega,.inl ⟨hn,?_⟩⟩⟩
      have h1:(hiB 0 hh').toNat=0:=by omega
      rw [h1]
      split<;>simp
     | false=>
      have hcap:=arr_cap hr harr hn
      simp only [KB.slice,hn,Bool.false_eq_true,if_false] at hv
      have hrun:=runs a w κ F hr hob.2.1 hob.2.2 _ _ _ hv hcap ⟨hc.1,hc.2.1,by have:=hc.2.2;omega⟩
      refine ⟨_,hrun,⟨hx.1.1,by split<;>rfl⟩,fun _ _=>⟨by omega,.inr ⟨hn,?_⟩⟩⟩
      rw [←hesz]
      by_cases hcl:(κ b).cap=(loB l).toNat
      ·rw [if_pos hcl]
       exact ⟨_,rfl,by omega,fun h=>by omega⟩
      ·rw [if_neg hcl]
       simp only [Option.map_some,add_addr]
       exact ⟨_,rfl,by omega,fun h=>rfl⟩
    ·cases hsv
   ·rename_i b g l0 h0 hxe
    simp only [Rd.run_get,Rd.run_ret] at hsv
    split at hsv
    ·rename_i hz
     simp only [Bool.and_eq_true,decide_eq_true_eq,beq_iff_eq] at hz
     obtain ⟨⟨hg,harr⟩,hesz⟩:=hz
     simp only [Option.some.injEq,Prod.mk.injEq] at hsv
     obtain ⟨rfl,rfl⟩:=hsv
     refine OpOk.pure hd hdst fun a w κ F hr hob hc=>?_
     have hx:RA C.P s.blk κ F w (use (opAV C.ft s.slot x)).2 (a.eval x):=use_op hr x rfl hob.1
     rw [hxe] at hx
     obtain ⟨⟨k1,k2⟩,k3⟩:=hx.2 hg.symm harr
     obtain ⟨n1,n2⟩:=arr_nil hr harr
     have hlim:subLim l hh' (h0 - l0) ((s.blk b).body.len - l0)≤(s.blk b).body.len - l0:=subLim_le (by omega)
     revert hc hlim
     generalize subLim l hh' (h0 - l0) ((s.blk b).body.len - l0)=lim
     intro hc hlim
     rcases k3 with ⟨hn,hv⟩ | ⟨hn,oo,hv,o1,o2⟩
     ·have hl0:=n1 hn
      have e0:h0 - l0=0:=by omega
      have elim:lim=0:=by omega
      rw [e0,elim] at hc
      have hrun:=runs a w κ F hr hob.2.1 hob.2.2 none 0 0 hv (Nat.le_refl _) hc
      refine ⟨_,hrun,⟨hx.1.1,by split<;>rfl⟩,fun _ _=>⟨by rw [e0];omega,.inl ⟨hn,?_⟩⟩⟩
      have h1:(hiB 0 hh').toNat=0:=by omega
      rw [h1]
      split<;>simp
     ·have hcap:=arr_cap hr harr hn
      have hrun:=runs a w κ F hr hob.2.1 hob.2.2 _ _ _ hv (by omega) ⟨hc.1,hc.2.1,by have:=hc.2.2;omega⟩
      refine ⟨_,hrun,⟨hx.1.1,by split<;>rfl⟩,fun _ _=>⟨by omega,.inr ⟨hn,?_⟩⟩⟩
      rw [←hesz]
      rw [←hesz] at hrun
      have e1:(hiB (h0 - l0) hh').toNat - (loB l).toNat=l0+(hiB (h0 - l0) hh').toNat - (l0+(loB l).toNat):=by omega
      have e2:(κ b).cap - l0 - (loB l).toNat=(κ b).cap - (l0+(loB l).toNat):=by omega
      rw [e1,e2]
      have e3:(l0+(loB l).toNat)*(s.blk b).body.esz=l0*(s.blk b).body.esz+(loB l).toNat*(s.blk b).body.esz:=Nat.add_mul _ _ _
      by_cases hcl:(κ b).cap - l0=(loB l).toNat
      ·rw [if_pos hcl]
       exact ⟨_,rfl,by omega,fun h=>by omega⟩
      ·rw [if_neg hcl]
       simp only [Option.map_some,add_addr]
       exact ⟨_,rfl,by omega,fun h=>by have:=o2 (by omega);omega⟩
    ·cases hsv
   ·cases hsv
  ·rename_i ht
   have hti:=(hT.is ht (by simp)).str
   split at h
   ·rename_i c v hsv
    simp only [okRes,Rd.run_ret,Option.some.injEq] at h
    subst h
    unfold sliceSV at hsv
    split at hsv
    ·rename_i xs hxe
     simp only [Option.some.injEq,Prod.mk.injEq] at hsv
     obtain ⟨rfl,rfl⟩:=hsv
     refine OpOk.pure hd hdst fun a w κ F hr hob hc=>?_
     have hx:RA C.P s.blk κ F w (use (opAV C.ft s.slot x)).2 (a.eval x):=use_op hr x rfl hob.1
     rw [hxe] at hx
     obtain ⟨hv,hlt⟩:=RV_str.1 hx
     obtain ⟨b1,b2⟩:=bnd a w κ F hr hob.2.1 hob.2.2
     have hs:ByteArray.size ⟨xs.toArray⟩=xs.length:=by show xs.toArray.size=_;simp
     have:=bounds_run (P:=C.P) (w:=w) (isS:=false) (len:=xs.length) (cap:=xs.length) b1 b2 hc.1 hc.2.1 hc.2.2 (Nat.le_refl _)
     refine ⟨.string ⟨((xs.take (hiB xs.length hh').toNat).drop (loB l).toNat).toArray⟩,?_,RV_str.2 ⟨rfl,by simp;omega⟩⟩
     simp only [execOp,ho,hv,Instr.sliceAt,Instr.slice,Sem.run_bind,run_underlying' hti,Result.andThen_ok,Option.map_none,Option.isSome_none,Bool.false_eq_true,if_false,hs,this,Sem.run_pure]
     have he:ByteArray.extract ⟨xs.toArray⟩ (loB l).toNat (hiB xs.length hh').toNat=⟨((xs.take (hiB xs.length hh').toNat).drop (loB l).toNat).toArray⟩:=by
      apply ByteArray.ext
      rw [ByteArray.data_extract]
      apply Array.toList_inj.1
      simp [List.extract_eq_take_drop,List.drop_take]
     rw [he]
    ·cases hsv
   ·cases h
  ·cases h
 ·cases h
end
end Go.Fer
namespace Go.Fer
open Go.RowKit
def RowL (P:Program) (e:Ty) (F:Nat→Prop) (w:World) (all:List Value) (xs:List e.Den):Prop:=
 all.length=xs.length*e.size∧∀ i (h:i<xs.length),RC P e F w ((all.drop (i*e.size)).take e.size) xs[i]
theorem RowL.append {P:Program} {e:Ty} {F:Nat→Prop} {w:World} {l m:List Value} {xs ys:List e.Den} (h:RowL P e F w l xs) (k:RowL P e F w m ys):RowL P e F w (l++m) (xs++ys):=by
 refine ⟨by simp [h.1,k.1,Nat.add_mul],fun i hi=>?_⟩
 by_cases hx:i<xs.length
 ·have e1:(xs++ys)[i]=xs[i]:=List.getElem_append_left hx
  rw [e1]
  have hle:(i+1)*e.size≤xs.length*e.size:=Nat.mul_le_mul_right _ (by omega)
  rw [Nat.add_mul,Nat.one_mul] at hle
  have:((l++m).drop (i*e.size)).take e.size=(l.drop (i*e.size)).take e.size:=by
   rw [List.drop_append_of_le_length (by rw [h.1];omega),List.take_append_of_le_length (by simp [h.1];omega)]
  rw [this]
  exact h.2 i hx
 ·have hi':i - xs.length<ys.length:=by simp at hi;omega
  have e1:(xs++ys)[i]=ys[i - xs.length]:=List.getElem_append_right (by omega)
  rw [e1]
  have hm:i*e.size=xs.length*e.size+(i - xs.length)*e.size:=by rw [←Nat.add_mul];congr 1;omega
  have:(l++m).drop (i*e.size)=m.drop ((i - xs.length)*e.size):=by
   rw [hm,←h.1,List.drop_append,List.drop_of_length_le (by omega)]
   simp
  rw [this]
  exact k.2 _ hi'
theorem RowL.rowIs {P:Program} {e:Ty} {F:Nat→Prop} {w:World} {all pre post:List Value} {cs:Array Value} {xs:List e.Den} (h:RowL P e F w all xs) (hc:cs.toList=pre++(all++post)):RowIs P e F w cs pre.length xs:=by
 intro i hi
 have hle:(i+1)*e.size≤xs.length*e.size:=Nat.mul_le_mul_right _ (by omega)
 rw [Nat.add_mul,Nat.one_mul] at hle
 refine ⟨_,fun j hj=>?_,h.2 i hi⟩
 have hj':j<e.size:=by simp at hj;omega
 rw [←Array.getElem?_toList,hc,List.getElem?_append_right (by omega),List.getElem?_append_left (by rw [h.1];omega)]
 simp only [List.getElem_take,List.getElem_drop]
 rw [show pre.length+i*e.size+j - pre.length=i*e.size+j from by omega]
 exact List.getElem?_eq_getElem _
theorem rowL_of_reads {P:Program} {e:Ty} {F:Nat→Prop} {w:World}:∀ {xs:List e.Den} {p:Addr},(0<xs.length→p.spot=none)→(∀ i (h:i<xs.length),∃ ds,Reads w ⟨p.block,p.off+i*e.size,none⟩ ds∧RC P e F w ds xs[i])→
  ∃ all,RowL P e F w all xs∧Reads w p all
 | [],p,hp,_=>⟨[],⟨by simp,fun i hi=>by simp at hi⟩,fun h=>by simp at h,fun j hj=>by simp at hj⟩
 | x::xs,p,hp,h=>by
  obtain ⟨ds,d1,d2⟩:=h 0 (by simp)
  have hdl:=RC_len e d2
  obtain ⟨all,a1,a2⟩:=rowL_of_reads (P:=P) (F:=F) (w:=w) (xs:=xs) (p:=⟨p.block,p.off+e.size,none⟩) (fun _=>rfl) (fun i hi=>by
   obtain ⟨ds',k1,k2⟩:=h (i+1) (by simpa using hi)
   refine ⟨ds',?_,by simpa using k2⟩
   rw [show (i+1)*e.size=e.size+i*e.size from by rw [Nat.add_mul];omega] at k1
   rw [←Nat.add_assoc] at k1
   exact k1)
  refine ⟨ds++all,?_,fun _=>hp (by simp),fun j hj=>?_⟩
  ·have h1:RowL P e F w ds [x]:=⟨by simp [hdl],fun i hi=>by
    have:i=0:=by simpa using hi
    subst this
    simpa [←hdl] using d2⟩
   exact h1.append a1
  ·rcases Nat.lt_or_ge j ds.length with h1 | h1
   ·rw [List.getElem_append_left h1]
    have:=d1.2 j h1
    simpa using this
   ·rw [List.getElem_append_right h1]
    have:=a2.2 (j - ds.length) (by simp at hj;omega)
    rw [←this]
    congr 2
    simp only
    omega
section
variable {C:Ctx} {T:Nat→Ty} {Φ:Nat→Option FC} {o:Oper} {s:AState} {res:OpRes}
theorem elems_ok {a:Act} {w:World} {κ:Nat→KB} {F:Nat→Prop} (hr:RelK C s a w κ F) {e:Ty} {av:AV} {v:Value} {ys:List e.Den} {l:List Nat} (h:(asDen (.slice e) av).run s.blk=some (ys,l)) (hv:RA C.P s.blk κ F w av v) :
  ∃ q cap,v=.slice q ys.length cap∧((q=none∧ys=[]∧cap=0)∨∃ p all,q=some p∧RowL C.P e F w all ys∧Reads w p all):=by
 have per:∀ {xs:List e.Den},RC C.P (.slice e) F w [v] xs→∃ q cap,v=.slice q xs.length cap∧((q=none∧xs=[]∧cap=0)∨∃ p all,q=some p∧RowL C.P e F w all xs∧Reads w p all):=by
  intro xs hx
  obtain ⟨q,cap,e1,m1,m2,m3,m4⟩:=hx
  refine ⟨q,cap,(List.cons.inj e1).1,?_⟩
  cases q with
  | none=>
   have:=m3 rfl
   exact .inl ⟨rfl,List.eq_nil_of_length_eq_zero (by omega),this⟩
  | some p=>
   obtain ⟨all,a1,a2⟩:=rowL_of_reads (P:=C.P) (F:=F) (w:=w) (xs:=xs) (p:=p) (fun h=>(m4 p rfl (by omega)).2.1) (fun i hi=>let ⟨ds,d1,d2⟩:=(m4 p rfl (by omega)).2.2 i hi;⟨ds,d1.reads,d2⟩)
   exact .inr ⟨p,all,rfl,a1,a2⟩
 cases av with
 | val t' y=>
  simp only [asDen,Rd.run_ret,Option.map_eq_some_iff,Prod.mk.injEq] at h
  obtain ⟨z,hz,rfl,_⟩:=h
  exact per (((RV_leaf rfl).1 (cast_RV hz hv)).2)
 | nils=>
  simp only [asDen,asTop,Ty.isLeaf,if_true,asLeaf,Rd.run_ret,Option.some.injEq,Prod.mk.injEq] at h
  obtain ⟨rfl,_⟩:=h
  simp only [RA] at hv
  exact ⟨none,0,hv,.inl ⟨rfl,rfl,rfl⟩⟩
 | own b g=>
  simp only [asDen,asTop,Ty.isLeaf,if_true,asLeaf,Rd.run_get,Rd.run_ret] at h
  split at h
  ·rename_i hg
   have hB:=hr.blks b
   unfold HB at hB
   split at h
   ·rename_i e' xs hbody
    simp only [Option.map_eq_some_iff,Prod.mk.injEq] at h
    obtain ⟨z,hz,rfl,_⟩:=h
    obtain ⟨ee,rfl⟩:=castDen_some hz
    cases ee
    have hvv:=hv.2 hg.symm (by rw [hbody];rfl)
    rw [hbody] at hvv hB
    simp only [Body.len] at hvv
    cases hn:(κ b).isNil with
    | true=>
     have hxs:=hB.1 hn
     subst hxs
     simp only [KB.slice,hn,if_true] at hvv
     exact ⟨none,0,hvv,.inl ⟨rfl,rfl,rfl⟩⟩
    | false=>
     obtain ⟨cs,T',c1,c2,c3,c4,c5⟩:=hB.2 hn
     simp only [KB.slice,hn,Bool.false_eq_true,if_false] at hvv
     obtain ⟨all,a1,a2⟩:=rowL_of_reads (P:=C.P) (F:=F) (w:=w) (xs:=xs) (p:=⟨(κ b).blk,(κ b).off,none⟩) (fun _=>rfl) (fun i hi=>by
      obtain ⟨ds,d1,d2⟩:=c5 i hi
      exact ⟨ds,⟨fun _=>rfl,fun j hj=>by rw [cell_of c1];exact d1 j hj⟩,d2⟩)
     exact ⟨_,_,hvv,.inr ⟨_,all,rfl,a1,a2⟩⟩
   ·rename_i e' xs hbody
    simp only [Option.map_eq_some_iff,Prod.mk.injEq] at h
    obtain ⟨z,hz,rfl,_⟩:=h
    obtain ⟨ee,rfl⟩:=castDen_some hz
    cases ee
    have hvv:=hv.2 hg.symm (by rw [hbody];rfl)
    rw [hbody] at hvv hB
    simp only [Body.len] at hvv
    simp only [HBody] at hB
    rw [←hvv] at hB
    exact per hB
   ·cases h
  ·cases h
 | sub b g lo hi=>
  simp only [asDen,asTop,Ty.isLeaf,if_true,asLeaf,Rd.run_get,Rd.run_ret] at h
  split at h
  ·rename_i hg
   have hB:=hr.blks b
   unfold HB at hB
   split at h
   ·rename_i e' xs hbody
    simp only [Option.map_eq_some_iff,Prod.mk.injEq] at h
    obtain ⟨z,hz,rfl,_⟩:=h
    obtain ⟨ee,rfl⟩:=castDen_some hz
    cases ee
    obtain ⟨⟨k1,k2⟩,k3⟩:=hv.2 hg.symm (by rw [hbody];rfl)
    rw [hbody] at k2 k3 hB
    simp only [Body.len,Body.esz] at k2 k3
    have hlen:((xs.take hi).drop lo).length=hi - lo:=by simp;omega
    rcases k3 with ⟨hn,hvv⟩ | ⟨hn,oo,hvv,o1,o2⟩
    ·have hxs:=hB.1 hn
     subst hxs
     exact ⟨none,0,by simpa using hvv,.inl ⟨rfl,by simp,rfl⟩⟩
    ·obtain ⟨cs,T',c1,c2,c3,c4,c5⟩:=hB.2 hn
     obtain ⟨all,a1,a2⟩:=rowL_of_reads (P:=C.P) (F:=F) (w:=w) (xs:=(xs.take hi).drop lo) (p:=⟨(κ b).blk,oo,none⟩) (fun _=>rfl) (fun i hi'=>by
      rw [hlen] at hi'
      obtain ⟨ds,d1,d2⟩:=c5 (lo+i) (by omega)
      refine ⟨ds,⟨fun _=>rfl,fun j hj=>?_⟩,?_⟩
      ·rw [cell_of c1,←d1 j hj]
       simp only
       rw [o2 (by omega)]
       congr 1
       simp only [Nat.add_mul]
       omega
      ·have e2:((xs.take hi).drop lo)[i]'(by rw [hlen];exact hi')=xs[lo+i]'(by omega):=by simp
       rw [e2];exact d2)
     exact ⟨_,_,by rw [hlen];exact hvv,.inr ⟨_,all,rfl,a1,a2⟩⟩
   ·rename_i e' xs hbody
    simp only [Option.map_eq_some_iff,Prod.mk.injEq] at h
    obtain ⟨z,hz,rfl,_⟩:=h
    obtain ⟨ee,rfl⟩:=castDen_some hz
    cases ee
    obtain ⟨⟨k1,k2⟩,k3⟩:=hv.2 hg.symm (by rw [hbody];rfl)
    rw [hbody] at k2 k3 hB
    exact per (sub_of_slice hB k1 k2 k3)
   ·cases h
  ·cases h
 | pp t' y=>simp [asDen,asTop,Ty.isLeaf,asLeaf,Rd.none] at h
 | raw u=>simp [asDen,asTop,Ty.isLeaf,asLeaf,rawDen] at h
 | _=>simp [asDen,asTop,Ty.isLeaf,asLeaf,Rd.none] at h
theorem firstCells_run {P:Program} {w:World} {e:Ty} {q:Option Addr} {n cap:Nat} {xs:List e.Den} {F:Nat→Prop} (hn:n=xs.length) (h:(q=none∧xs=[]∧cap=0)∨∃ p all,q=some p∧RowL P e F w all xs∧Reads w p all) :
  ∃ all,(Builtin.firstCells e.size n (.slice q n cap)).run P w=.ok all.toArray w∧RowL P e F w all xs:=by
 subst hn
 rcases h with ⟨rfl,rfl,rfl⟩ | ⟨p,all,rfl,a1,a2⟩
 ·exact ⟨[],by simp [Builtin.firstCells],by simp [RowL]⟩
 ·refine ⟨all,?_,a1⟩
  simp only [Builtin.firstCells]
  rw [←a1.1]
  exact reads_run a2
theorem growBy_le (n:Nat):∀ (k c:Nat),Builtin.growBy n k c≤max c (2*n+768):=by
 intro k
 induction k with
 | zero=>intro c;simp only [Builtin.growBy];omega
 | succ k ih=>
  intro c
  simp only [Builtin.growBy]
  split
  ·omega
  ·have:=ih (c+(c+768) / 4)
   omega
theorem nextcap_le {need cap:Nat} (h:cap<need):Builtin.nextslicecap need cap≤2*need+768:=by
 unfold Builtin.nextslicecap
 split
 ·omega
 ·split
  ·omega
  ·have:=growBy_le need 4 cap
   omega
theorem zeroCells_size {z:Array Value} {n k:Nat} (h:z.size=k):(Builtin.zeroCells z n).size=n*k:=by simp [Builtin.zeroCells,h]
theorem append_new {P:Program} {w:World} {e:Ty} {ty ty':TypeId} {F:Nat→Prop} (h:TyIs P (.slice e) ty) (h':TyIs P (.slice e) ty'∨∃ e',TyIs P (.slice e') ty') {q q':Option Addr} {cap cap':Nat} {xs ys:List e.Den}
  (hx:(q=none∧xs=[]∧cap=0)∨∃ p all,q=some p∧RowL P e F w all xs∧Reads w p all) (hy:(q'=none∧ys=[]∧cap'=0)∨∃ p all,q'=some p∧RowL P e F w all ys∧Reads w p all)
  (hc:cap<xs.length+ys.length) (hl:lenLe (xs.length+ys.length)) (rt:TypeId) :
  ∃ eid newCap cs,(Builtin.append_ #[ty,ty'] rt #[.slice q xs.length cap,.slice q' ys.length cap']).run P w=.ok (.slice (some ⟨w.heap.size,0,none⟩) (xs.length+ys.length) newCap) (w.drew.alloc (.cells cs eid))∧
   newCap<2 ^ 63∧xs.length+ys.length≤newCap∧cs.size=newCap*e.size∧RowIs P e F w cs 0 (xs++ys):=by
 obtain ⟨eid,hj,hj2,hj3⟩:=h.sl
 obtain ⟨j',hj'⟩:∃ j',P.underlying ty'=some (.slice j'):=by
  rcases h' with h' | ⟨e',h'⟩
  ·obtain ⟨j',k,_⟩:=h'.sl;exact ⟨j',k⟩
  ·obtain ⟨j',k,_⟩:=h'.sl;exact ⟨j',k⟩
 obtain ⟨i,z,i1,i2,i3,i4,i5,i6⟩:=infoOk_out hj2.info
 have hz:=(nthAV_zeros_len e (P:=P) i5).2
 have hdrew:∀ t:Nat,xs.length+ys.length≤xs.length+ys.length+t % (2 ^ 63 - (xs.length+ys.length))∧xs.length+ys.length+t % (2 ^ 63 - (xs.length+ys.length))<2 ^ 63:=by
  intro t
  unfold lenLe at hl
  have:t % (2 ^ 63 - (xs.length+ys.length))<2 ^ 63 - (xs.length+ys.length):=Nat.mod_lt _ (by omega)
  omega
 generalize hnc:xs.length+ys.length+(w.tape w.drawn (.appendCap (xs.length+ys.length) cap eid)) % (2 ^ 63 - (xs.length+ys.length))=newCap
 have hnc':=hdrew (w.tape w.drawn (.appendCap (xs.length+ys.length) cap eid))
 rw [hnc] at hnc'
 have hreads:∀ {p:Addr} {all:List Value},Reads w p all→Reads w.drew p all:=fun h=>h
 have hRow:∀ {all:List Value} {zs:List e.Den},RowL P e F w all zs→RowL P e F w.drew all zs:=fun h=>⟨h.1,fun i hi=>RC_mono e (F:=F) (F':=F) (w:=w) (w':=w.drew) (fun _ hr=>hr) ⟨Nat.le_refl _,fun _ _=>rfl⟩ (h.2 i hi)⟩
 have hx':(q=none∧xs=[]∧cap=0)∨∃ p all,q=some p∧RowL P e F w.drew all xs∧Reads w.drew p all:=hx.imp id fun ⟨p,all,a,b,c⟩=>⟨p,all,a,hRow b,hreads c⟩
 have hy':(q'=none∧ys=[]∧cap'=0)∨∃ p all,q'=some p∧RowL P e F w.drew all ys∧Reads w.drew p all:=hy.imp id fun ⟨p,all,a,b,c⟩=>⟨p,all,a,hRow b,hreads c⟩
 obtain ⟨old,o1,o2⟩:=firstCells_run (P:=P) (w:=w.drew) (cap:=cap) rfl hx'
 obtain ⟨new,n1,n2⟩:=firstCells_run (P:=P) (w:=w.drew) (cap:=cap') rfl hy'
 refine ⟨eid,newCap,old.toArray++new.toArray++Builtin.zeroCells z.cells (newCap - (xs.length+ys.length)),?_,hnc'.2,hnc'.1,?_,?_⟩
 ·have hb:=nextcap_le hc
  have hb2:Builtin.nextslicecap (xs.length+ys.length) cap*i.bytes≤281474976710656:=by
   unfold lenLe at hl
   calc Builtin.nextslicecap (xs.length+ys.length) cap*i.bytes≤(2*4294967296+768)*1024:=Nat.mul_le_mul (by omega) i3
    _≤281474976710656:=by decide
  have hmax:¬((xs.length+ys.length:Nat):Int) > IntKind.i64.max:=by
   unfold lenLe at hl
   have:IntKind.i64.max=9223372036854775807:=by decide
   omega
  have hb3:¬Builtin.nextslicecap (xs.length+ys.length) cap*i.bytes > 2 ^ 48:=by
   have:(2:Nat) ^ 48=281474976710656:=by decide
   omega
  have hcut:(Question.appendCap (xs.length+ys.length) cap eid).cut (w.tape w.drawn (.appendCap (xs.length+ys.length) cap eid))=newCap:=by
   rw [←hnc];rfl
  have hforce:(Question.appendCap (xs.length+ys.length) cap eid).forced=false:=rfl
  simp only [Builtin.append_,List.getElem?_toArray,List.getElem?_cons_zero,List.getElem?_cons_succ,Sem.run_bind,run_underlying' hj,run_underlying' hj',Result.andThen_ok,run_sizeOf' i1,i2,Sem.run_pure,Builtin.lenOf,Bool.false_eq_true,if_false,
   if_neg (show ¬xs.length+ys.length≤cap by omega),hmax,false_and,run_typeInfo' i1,hb3,run_choose,hforce,hcut,run_askRoom,Bool.not_false,if_true,World.drew_eq,o1,n1,run_zeroValue' i1 i4]
  simp [newRow]
 ·have h1:=o2.1
  have h2:=n2.1
  simp only [Array.size_append,List.size_toArray,zeroCells_size hz,h1,h2]
  rw [←Nat.add_mul,←Nat.add_mul]
  congr 1
  omega
 ·have hrow:=o2.append n2
  have hrow':RowL P e F w (old++new) (xs++ys):=⟨hrow.1,fun i hi=>RC_mono e (F:=F) (F':=F) (w:=w.drew) (w':=w) (fun _ hr=>hr) ⟨Nat.le_refl _,fun _ _=>rfl⟩ (hrow.2 i hi)⟩
  exact hrow'.rowIs (pre:=[]) (post:=(Builtin.zeroCells z.cells (newCap - (xs.length+ys.length))).toList) (by simp)
end
end Go.Fer
namespace Go.Fer
open Go.RowKit
section
variable {C:Ctx} {T:Nat→Ty} {Φ:Nat→Option FC} {o:Oper} {s:AState} {res:OpRes}
theorem RelK.renew {a:Act} {w w':World} {κ:Nat→KB} {F:Nat→Prop} (h:RelK C s a w κ F) {b g:Nat} {e:Ty} {zs:List e.Den} {k:KB} (hg:(s.blk b).gen<g) (hnew:k.isNil=true∨k.blk=w.heap.size) (hsz:w.heap.size≤w'.heap.size)
  (hold:∀ r,r<w.heap.size→w'.heap[r]?=w.heap[r]?) (hlt:k.isNil=false→k.blk<w'.heap.size) (hc:Calm w w')
  (hbody:∀ H κ',HBody C.P H κ' F w' k (.arr e zs)):RelK C (s.setB b ⟨g,.arr e zs⟩) a w' (fun i=>if i=b then k else κ i) F:=by
 have hl:Later s.blk κ (fun i=>if i=b then (⟨g,.arr e zs⟩:ABlk) else s.blk i) (fun i=>if i=b then k else κ i):=later_setB hg fun b' hb'=>by simp [hb']
 have he:Ext F w w':=⟨hsz,fun r hr=>hold r (h.fsz r hr)⟩
 refine h.move (H':=fun i=>if i=b then (⟨g,.arr e zs⟩:ABlk) else s.blk i) hl (fun _ hr=>hr) (fun _ hr=>.inl hr) hsz (fun r hr _=>hold r hr) hc (fun _=>?_) ?_ ?_ (fun r hr=>Nat.lt_of_lt_of_le (h.fsz r hr) hsz) (an_setB (.inr ⟨rfl,rfl⟩) fun b' hb'=>by simp [hb'])
 ·intro i
  by_cases hi:i=b
  ·subst hi
   simp only [HB,if_true]
   exact hbody _ _
  ·exact HB.other (h.blks i) hl (fun _ hr=>hr) he (by simp [hi]) (by simp [hi]) fun ho=>hold _ (h.own i ho).1
 ·intro i hi
  by_cases hib:i=b
  ·subst hib
   simp only [if_true,Body.owned,Bool.not_eq_true'] at hi ⊢
   have hk:=hnew.resolve_left (by rw [hi];simp)
   refine ⟨hlt hi,fun hf=>?_,.inr (by omega)⟩
   have:=h.fsz _ hf;omega
  ·simp only [if_neg hib] at hi ⊢
   have:=h.own i hi
   exact ⟨by omega,this.2.1,.inl ⟨i,hi,rfl⟩⟩
 ·intro i j hi hj e'
  by_cases hib:i=b<;>by_cases hjb:j=b
  ·rw [hib,hjb]
  ·simp only [if_pos hib,if_neg hjb,Body.owned,Bool.not_eq_true'] at hi hj e'
   have hk:=hnew.resolve_left (by rw [hi];simp)
   have:=(h.own j hj).1
   omega
  ·simp only [if_neg hib,if_pos hjb,Body.owned,Bool.not_eq_true'] at hi hj e'
   have hk:=hnew.resolve_left (by rw [hj];simp)
   have:=(h.own i hi).1
   omega
  ·simp only [if_neg hib,if_neg hjb] at hi hj e'
   exact h.inj i j hi hj e'
theorem setB_setB (s:AState) (b:Nat) (x y:ABlk):(s.setB b x).setB b y=s.setB b y:=by
 unfold AState.setB
 congr 1
 funext i
 simp only
 split<;>rfl
theorem RelK.consume {a:Act} {w:World} {κ:Nat→KB} {F:Nat→Prop} (h:RelK C s a w κ F) {b:Nat} {e:Ty} {xs:List e.Den} (hb:(s.blk b).body=.arr e xs) {lo hi:Nat} (h1:lo≤hi) (h2:hi≤xs.length) {v:Value} (hs:IsSub (κ b) e.size lo hi v) :
  ∃ κ',RelK C (s.setB b ⟨(s.blk b).gen+1,.arr e ((xs.take hi).drop lo)⟩) a w κ' F∧v=(κ' b).slice ((xs.take hi).drop lo).length:=by
 have hlen:((xs.take hi).drop lo).length=hi - lo:=by simp;omega
 have hl2:∀ κ':Nat→KB,(∀ b',b'≠b→κ' b'=κ b')→Later s.blk κ (fun i=>if i=b then (⟨(s.blk b).gen+1,.arr e ((xs.take hi).drop lo)⟩:ABlk) else s.blk i) κ':=
  fun κ' hκ=>later_setB (Nat.lt_succ_self _) hκ
 have hB:=h.blks b
 unfold HB at hB
 rw [hb] at hB
 rcases hs with ⟨hn,rfl⟩ | ⟨hn,o,rfl,o1,o2⟩
 ·have hxs:=hB.1 hn
  subst hxs
  refine ⟨κ,?_,by simp [KB.slice,hn]⟩
  refine h.move (H':=fun i=>if i=b then (⟨(s.blk b).gen+1,.arr e ((([]:List e.Den).take hi).drop lo)⟩:ABlk) else s.blk i) (hl2 κ fun _ _=>rfl) (fun _ hr=>hr) (fun _ hr=>.inl hr) (Nat.le_refl _) (fun _ _ _=>rfl) (Calm.refl _) (fun _=>?_) ?_ ?_ h.fsz (an_setB (.inr ⟨rfl,rfl⟩) fun _ _=>rfl)
  ·intro i
   by_cases hi:i=b
   ·subst hi
    simp only [HB,if_true]
    exact ⟨fun _=>by simp,fun h=>by rw [hn] at h;cases h⟩
   ·exact HB.other (h.blks i) (hl2 κ fun _ _=>rfl) (fun _ hr=>hr) (Ext.refl _ _) (by simp [hi]) rfl fun _=>rfl
  ·intro i hi
   by_cases hib:i=b
   ·subst hib;simp [Body.owned,hn] at hi
   ·simp only [if_neg hib] at hi;exact ⟨(h.own i hi).1,(h.own i hi).2.1,.inl ⟨i,hi,rfl⟩⟩
  ·intro i j hi hj e'
   by_cases hib:i=b
   ·subst hib;simp [Body.owned,hn] at hi
   ·by_cases hjb:j=b
    ·subst hjb;simp [Body.owned,hn] at hj
    ·simp only [if_neg hib,if_neg hjb] at hi hj;exact h.inj i j hi hj e'
 ·obtain ⟨cs,T',c1,c2,c3,c4,c5⟩:=hB.2 hn
  let k':KB:=⟨(κ b).blk,o,(κ b).cap - lo,false⟩
  let κ':Nat→KB:=fun i=>if i=b then k' else κ i
  have hκ':∀ b',b'≠b→κ' b'=κ b':=fun b' h=>if_neg h
  have hkb:κ' b=k':=if_pos rfl
  have hown:=h.own b (by rw [hb];simp [Body.owned,hn])
  refine ⟨κ',?_,by rw [hkb,hlen];simp [KB.slice,k']⟩
  refine h.move (H':=fun i=>if i=b then (⟨(s.blk b).gen+1,.arr e ((xs.take hi).drop lo)⟩:ABlk) else s.blk i) (hl2 κ' hκ') (fun _ hr=>hr) (fun _ hr=>.inl hr) (Nat.le_refl _) (fun _ _ _=>rfl) (Calm.refl _) (fun _=>?_) ?_ ?_ h.fsz (an_setB (.inr ⟨rfl,rfl⟩) hκ')
  ·intro i
   by_cases hi':i=b
   ·subst hi'
    simp only [HB,if_true,hkb]
    have hmul:lo*e.size≤(κ i).cap*e.size:=Nat.mul_le_mul_right _ (by omega)
    refine ⟨fun h=>(by cases h),fun _=>⟨cs,T',c1,?_,by rw [hlen];simp only [k'];omega,by simp only [k'];omega,fun j hj=>?_⟩⟩
    ·simp only [k']
     rw [Nat.sub_mul]
     omega
    ·rw [hlen] at hj
     obtain ⟨ds,d1,d2⟩:=c5 (lo+j) (by omega)
     have e2:((xs.take hi).drop lo)[j]'(by rw [hlen];exact hj)=xs[lo+j]'(by omega):=by simp
     rw [e2]
     refine ⟨ds,fun m hm=>?_,d2⟩
     have:=d1 m hm
     simp only [k']
     rw [o2 (by omega),←this]
     congr 1
     simp only [Nat.add_mul]
     omega
   ·exact HB.other (h.blks i) (hl2 κ' hκ') (fun _ hr=>hr) (Ext.refl _ _) (by simp [hi']) (hκ' i hi') fun _=>rfl
  ·intro i hi'
   by_cases hib:i=b
   ·subst hib;rw [hkb];exact ⟨hown.1,hown.2.1,.inl ⟨i,by rw [hb];simp [Body.owned,hn],rfl⟩⟩
   ·simp only [if_neg hib] at hi';rw [hκ' i hib] at hi' ⊢;exact ⟨(h.own i hi').1,(h.own i hi').2.1,.inl ⟨i,hi',rfl⟩⟩
  ·intro i j hi' hj e'
   have eb:∀ i,(κ' i).blk=(κ i).blk:=fun i=>by
    by_cases hib:i=b
    ·subst hib;rw [hkb]
    ·rw [hκ' i hib]
   have ob:∀ i,((if i=b then (⟨(s.blk b).gen+1,.arr e ((xs.take hi).drop lo)⟩:ABlk) else s.blk i).body.owned (κ' i)=true)→(s.blk i).body.owned (κ i)=true:=fun i hi=>by
    by_cases hib:i=b
    ·subst hib;rw [hb];simp [Body.owned,hn]
    ·simp only [if_neg hib] at hi;rw [hκ' i hib] at hi;exact hi
   rw [eb,eb] at e'
   exact h.inj i j (ob i hi') (ob j hj) e'
theorem RowIs.later {P:Program} {e:Ty} {F:Nat→Prop} {w w':World} {cs:Array Value} {off:Nat} {xs:List e.Den} (h:RowIs P e F w cs off xs) (he:Ext F w w'):RowIs P e F w' cs off xs:=h.mono (fun _ hr=>hr) he
theorem ok_append (hT:TabOk C.P T) {args:Array Operand} {tys:Array TypeId} (hdst:∀ i,o.dst=some i→i<C.nt) (ho:o.op=.call { callee:=.builtin .append,args:=args,argTypes:=tys }) (h:(appendOpV T (opAV C.ft s.slot) o.dst args.toList tys.toList).run s.blk=some res):OpOk C o s res:=by
 obtain ⟨args⟩:=args
 obtain ⟨tys⟩:=tys
 have hd:∀ c,o.op≠.defer c:=by rw [ho];intro c hc;cases hc
 simp only [appendOpV] at h
 split at h
 ·rename_i x y t u
  split at h
  ·rename_i e e2 ht hu
   have hti:=hT.is ht (by simp)
   have htu:=hT.is hu (by simp)
   obtain ⟨eid,hj,hj2,hj3⟩:=hti.sl
   obtain ⟨eid',hj',_⟩:=htu.sl
   obtain ⟨inf,z,i1,i2,i3,i4,i5,i6⟩:=infoOk_out hj2.info
   have exe:∀ (a:Act) (w w':World) v,(Builtin.append_ #[t,u] o.type #[a.eval x,a.eval y]).run C.P w=.ok v w'→(execOp a.eval o).run C.P w=.ok (.value v) w':=by
    intro a w w' v hv
    refine run_call_builtin ho ?_
    simp [builtin,hv]
   have main:∀ (s:AState) (a:Act) (w:World) (κ:Nat→KB) (F:Nat→Prop) (Q:Exit→Act→World→Prop) (b g:Nat) (xs ys:List e.Den),RelK C s a w κ F→
     (∃ q cap,a.eval y=.slice q ys.length cap∧((q=none∧ys=[]∧cap=0)∨∃ p all,q=some p∧RowL C.P e F w all ys∧Reads w p all))→
     (s.blk b).gen<g→(∃ q cap,a.eval x=.slice q xs.length cap∧((q=none∧xs=[]∧cap=0)∨∃ p all,q=some p∧RowL C.P e F w all xs∧Reads w p all))→
     (∀ q cap,a.eval x=.slice q xs.length cap→q≠none→xs.length+ys.length≤cap→(s.blk b).body=.arr e xs∧(κ b).isNil=false∧q=some ⟨(κ b).blk,(κ b).off,none⟩∧cap=(κ b).cap)→lenLe (xs.length+ys.length)→
     o.wpIn (rnd C.r) 0 C.P a w (fun a' w'=>Rel C ((s.setB b ⟨g,.arr e (xs++ys)⟩).set o.dst (.own b g)) a' w') Q:=by
    intro s a w κ F Q b g xs ys hr hyr hgen hxv hxb hlen
    obtain ⟨q,cap,hxv,hxr⟩:=hxv
    obtain ⟨q',cap',hyv,hyr⟩:=hyr
    have setown:∀ (κ':Nat→KB) (v:Value) (w':World),RelK C (s.setB b ⟨g,.arr e (xs++ys)⟩) a w' κ' F→v=(κ' b).slice (xs++ys).length→Rel C ((s.setB b ⟨g,.arr e (xs++ys)⟩).set o.dst (.own b g)) (a.put o.dst v) w':=by
     intro κ' v w' hr' hv
     refine ⟨κ',F,RelK.set hr' hdst ⟨⟨by simp [AState.setB],?_⟩,fun _ _=>?_⟩⟩
     ·rw [hv];unfold KB.slice;split<;>rfl
     ·rw [hv];simp [AState.setB,Body.len]
    by_cases hroom:xs.length+ys.length≤cap
    ·
     cases hq:q with
     | none=>
      subst hq
      obtain ⟨hx0,hc0⟩:xs=[]∧cap=0:=by
       rcases hxr with ⟨_,h1,h2⟩ | ⟨p,all,h1,_⟩
       ·exact ⟨h1,h2⟩
       ·cases h1
      subst hx0;subst hc0
      have hy0:ys=[]:=by simpa using hroom
      subst hy0
      obtain ⟨new,n1,n2⟩:=firstCells_run (P:=C.P) (w:=w) (cap:=cap') rfl hyr
      have hrun:(Builtin.append_ #[t,u] o.type #[a.eval x,a.eval y]).run C.P w=.ok (.slice none 0 0) w:=by
       rw [hxv,hyv]
       simp only [List.length_nil] at n1 ⊢
       simp [Builtin.append_,run_underlying' hj,run_underlying' hj',run_sizeOf' i1,Builtin.lenOf]
       rw [i2,n1]
       simp
      refine oper_value hd (exe a w w _ hrun) (setown _ _ _ (hr.renew (k:=⟨0,0,0,true⟩) hgen (.inl rfl) (Nat.le_refl _) (fun _ _=>rfl) (fun h=>by cases h) (Calm.refl _) fun H κ'=>⟨fun _=>rfl,fun h=>by cases h⟩) ?_)
      simp [KB.slice]
     | some p0=>
      obtain ⟨hb,hnil,hp,hcap⟩:=hxb q cap hxv (by rw [hq];simp) hroom
      rw [hq] at hp
      have hp:=Option.some.inj hp
      subst hp
      subst hcap
      have hB:=hr.blks b
      unfold HB at hB
      rw [hb] at hB
      obtain ⟨cs,T',c1,c2,c3,c4,c5⟩:=hB.2 hnil
      obtain ⟨new,n1,n2⟩:=firstCells_run (P:=C.P) (w:=w) (cap:=cap') rfl hyr
      have hnl:=n2.1
      have hone:∀ v∈new,v.oneCell'=true:=by
       intro v hv
       obtain ⟨j,hj,rfl⟩:=List.mem_iff_getElem.1 hv
       have hpos:0<e.size:=Nat.pos_of_ne_zero hj3
       have hdiv:j / e.size<ys.length:=(Nat.div_lt_iff_lt_mul hpos).2 (by rw [←hnl];exact hj)
       have hrc:=n2.2 (j / e.size) hdiv
       have hal:=leafs_ok (P:=C.P) (H:=fun _=>⟨0,.dead⟩) (κ:=fun _=>⟨0,0,0,true⟩) e hrc
       have hmod:=Nat.mod_lt j hpos
       have hjj:j / e.size*e.size+j % e.size=j:=Nat.div_add_mod' j e.size
       have hlen2:((new.drop (j / e.size*e.size)).take e.size).length=e.size:=RC_len e hrc
       have:=(hal.nth (j % e.size) (by rw [hal.len,hlen2];exact hmod)).2
       rw [List.getD_eq_getElem?_getD,List.getElem?_take,if_pos hmod,List.getElem?_drop,hjj,List.getElem?_eq_getElem hj] at this
       exact this
      have hpos2:(κ b).off+xs.length*e.size+0+new.length≤cs.size:=by
       rw [hnl]
       have:(xs.length+ys.length)*e.size≤(κ b).cap*e.size:=Nat.mul_le_mul_right _ hroom
       rw [Nat.add_mul] at this
       omega
      obtain ⟨w',cs',r1,r2,r3,r4,r5,r6⟩:=storeCells_ok (P:=C.P) new ((κ b).off+xs.length*e.size) 0 w cs c1 hpos2 hone
      have hrun:(Builtin.append_ #[t,u] o.type #[a.eval x,a.eval y]).run C.P w=.ok (.slice (some ⟨(κ b).blk,(κ b).off,none⟩) (xs.length+ys.length) (κ b).cap) w':=by
       rw [hxv,hyv,hq]
       simp only [Builtin.append_,List.getElem?_toArray,List.getElem?_cons_zero,List.getElem?_cons_succ,Sem.run_bind,run_underlying' hj,run_underlying' hj',Result.andThen_ok,run_sizeOf' i1,i2,Sem.run_pure,Builtin.lenOf,Bool.false_eq_true,if_false,
        if_pos hroom,Bool.not_false,if_true,n1,add_addr]
       simp only [r1,Result.andThen_ok]
      have hl2:Later s.blk κ (fun i=>if i=b then (⟨g,.arr e (xs++ys)⟩:ABlk) else s.blk i) κ:=later_setB hgen fun _ _=>rfl
      refine oper_value hd (exe a w w' _ hrun) (setown κ _ _ (hr.write (b:=b) (by rw [hb];simp [Body.owned,hnil]) (by simp [Body.owned,hnil]) hl2 (fun h=>by cases h) (fun h=>by cases h) r4 r5 r6 fun H hH hlt he=>?_) (by simp [KB.slice,hnil]))
      refine ⟨fun h=>(by rw [hnil] at h;cases h),fun _=>?_⟩
      have hsz':cs'.size=cs.size:=by
       rw [←Array.length_toList,r3]
       simp only [List.length_append,List.length_take,List.length_drop,Array.length_toList]
       omega
      refine ⟨cs',T',r2,by omega,by simp;omega,c4,fun i hi=>?_⟩
      simp only [Nat.add_zero] at r3
      have hpre:(cs.toList.take ((κ b).off+xs.length*e.size)).length=(κ b).off+xs.length*e.size:=by simp;omega
      by_cases hix:i<xs.length
      ·obtain ⟨ds,d1,d2⟩:=c5 i hix
       have e1:(xs++ys)[i]=xs[i]:=List.getElem_append_left hix
       rw [e1]
       refine ⟨ds,fun k hk=>?_,RC_mono e (fun _ hr=>hr) he d2⟩
       have hds:=RC_len e d2
       have hle:(i+1)*e.size≤xs.length*e.size:=Nat.mul_le_mul_right _ (by omega)
       rw [Nat.add_mul] at hle
       rw [←Array.getElem?_toList,r3,List.getElem?_append_left (by omega),List.getElem?_take,if_pos (by omega)]
       rw [Array.getElem?_toList]
       exact d1 k hk
      ·have hi':i - xs.length<ys.length:=by simp at hi;omega
       have e1:(xs++ys)[i]=ys[i - xs.length]:=List.getElem_append_right (by omega)
       rw [e1]
       have hri:=n2.rowIs (pre:=cs.toList.take ((κ b).off+xs.length*e.size)) (post:=cs.toList.drop ((κ b).off+xs.length*e.size+new.length)) r3
       obtain ⟨ds,d1,d2⟩:=hri (i - xs.length) hi'
       refine ⟨ds,fun k hk=>?_,RC_mono e (fun _ hr=>hr) he d2⟩
       have:=d1 k hk
       rw [hpre] at this
       rw [←this]
       congr 1
       have:i*e.size=xs.length*e.size+(i - xs.length)*e.size:=by rw [←Nat.add_mul];congr 1;omega
       omega
    ·
     obtain ⟨eid2,newCap,cs,r1,r2,r3,r4,r5⟩:=append_new (P:=C.P) (w:=w) (F:=F) (cap:=cap) (cap':=cap') hti (.inr ⟨e2,htu⟩) hxr hyr (by omega) hlen o.type
     rw [←hxv,←hyv] at r1
     refine oper_value hd (exe a w _ _ r1) (setown _ _ _ (hr.renew (k:=⟨w.heap.size,0,newCap,false⟩) hgen (.inr rfl) (by simp) (fun r hr=>?_) (fun _=>by simp) ⟨rfl,rfl,rfl⟩ fun H κ'=>⟨fun h=>(by cases h),fun _=>⟨cs,eid2,?_,by simp [r4],by simpa using r3,r2,?_⟩⟩) ?_)
     ·exact heap_alloc_lt w.drew _ hr
     ·exact heap_alloc_new w.drew _
     ·exact r5.later ⟨by simp,fun r hr'=>heap_alloc_lt w.drew _ (hr.fsz r hr')⟩
     ·simp [KB.slice]
   simp only [appendV] at h
   split at h
   ·rename_i b g hxe
    simp only [Rd.run_get] at h
    split at h
    ·rename_i e' xs hbody
     split at h
     ·rename_i hee
      subst hee
      simp only [Rd.run_bindO,Option.bind_eq_some_iff,Rd.run_ret,Option.some.injEq] at h
      obtain ⟨⟨ys,l⟩,hys,rfl⟩:=h
      have hg:(s.blk b).gen=g∧(s.blk b).body=.arr e' xs:=by
       by_cases hgg:(s.blk b).gen=g
       ·rw [if_pos hgg] at hbody;exact ⟨hgg,hbody⟩
       ·rw [if_neg hgg] at hbody;cases hbody
      intro a w κ F Q hr hob hc
      have hx:RA C.P s.blk κ F w (use (opAV C.ft s.slot x)).2 (a.eval x):=use_op hr x rfl hob.1
      have hx':=hx
      rw [hxe] at hx'
      have hv:=hx'.2 hg.1.symm (by rw [hg.2];rfl)
      rw [hg.2] at hv
      simp only [Body.len] at hv
      have hxs:(asDen (.slice e') (use (opAV C.ft s.slot x)).2).run s.blk=some (xs,[b]):=by
       rw [hxe]
       simp [asDen,asTop,Ty.isLeaf,asLeaf,hg.1,hg.2,castDen]
      refine main s a w κ F Q b (g+1) xs ys hr (elems_ok hr hys (use_op hr y rfl hob.2)) (by rw [hg.1];exact Nat.lt_succ_self _) (elems_ok hr hxs hx) (fun q cap hq hqn _=>?_) hc
      rw [hv] at hq
      cases hn:(κ b).isNil with
      | true=>
       simp only [KB.slice,hn,if_true,Value.slice.injEq] at hq
       exact absurd hq.1.symm hqn
      | false=>
       simp only [KB.slice,hn,Bool.false_eq_true,if_false,Value.slice.injEq] at hq
       exact ⟨hg.2,rfl,hq.1.symm,hq.2.2.symm⟩
     ·cases h
    ·cases h
   ·rename_i b g lo hi hxe
    simp only [Rd.run_get] at h
    split at h
    ·rename_i e' xs hbody
     split at h
     ·rename_i hee
      subst hee
      simp only [Rd.run_bindO,Option.bind_eq_some_iff,Rd.run_ret,Option.some.injEq] at h
      obtain ⟨⟨ys,l⟩,hys,rfl⟩:=h
      have hg:(s.blk b).gen=g∧(s.blk b).body=.arr e' xs:=by
       by_cases hgg:(s.blk b).gen=g
       ·rw [if_pos hgg] at hbody;exact ⟨hgg,hbody⟩
       ·rw [if_neg hgg] at hbody;cases hbody
      intro a w κ F Q hr hob hc
      have hx:RA C.P s.blk κ F w (use (opAV C.ft s.slot x)).2 (a.eval x):=use_op hr x rfl hob.1
      rw [hxe] at hx
      obtain ⟨⟨k1,k2⟩,k3⟩:=hx.2 hg.1.symm (by rw [hg.2];rfl)
      rw [hg.2] at k2 k3
      simp only [Body.len,Body.esz] at k2 k3
      obtain ⟨κ',hr',hv⟩:=hr.consume hg.2 k1 k2 k3
      have hyr:=elems_ok hr hys (use_op hr y rfl hob.2)
      have hsb:(s.setB b ⟨(s.blk b).gen+1,.arr e' ((xs.take hi).drop lo)⟩).blk b=⟨(s.blk b).gen+1,.arr e' ((xs.take hi).drop lo)⟩:=by simp [AState.setB]
      have hxs:(asDen (.slice e') (.own b (g+1))).run (s.setB b ⟨(s.blk b).gen+1,.arr e' ((xs.take hi).drop lo)⟩).blk=some ((xs.take hi).drop lo,[b]):=by
       simp [asDen,asTop,Ty.isLeaf,asLeaf,AState.setB,hg.1,castDen]
      have hxr:RA C.P (s.setB b ⟨(s.blk b).gen+1,.arr e' ((xs.take hi).drop lo)⟩).blk κ' F w (.own b (g+1)) (a.eval x):=by
       refine ⟨⟨by rw [hsb,hg.1];exact Nat.le_refl _,hx.1.2⟩,fun _ _=>?_⟩
       rw [hsb]
       exact hv
      have:=main (s.setB b ⟨(s.blk b).gen+1,.arr e' ((xs.take hi).drop lo)⟩) a w κ' F Q b (g+2) ((xs.take hi).drop lo) ys hr' hyr (by rw [hsb,hg.1];simp) (elems_ok hr' hxs hxr) (fun q cap hq hqn _=>?_) hc
      ·rw [setB_setB] at this
       exact this
      ·rw [hv] at hq
       cases hn:(κ' b).isNil with
       | true=>
        simp only [KB.slice,hn,if_true,Value.slice.injEq] at hq
        exact absurd hq.1.symm hqn
       | false=>
        simp only [KB.slice,hn,Bool.false_eq_true,if_false,Value.slice.injEq] at hq
        exact ⟨by rw [hsb],rfl,hq.1.symm,hq.2.2.symm⟩
     ·cases h
    ·cases h
   ·rename_i hxe
    simp only [Rd.run_bindO,Option.bind_eq_some_iff] at h
    obtain ⟨⟨ys,l⟩,hys,h⟩:=h
    obtain ⟨b,hb,hk⟩:=newB_some h
    simp only [Option.some.injEq] at hk
    subst hk
    intro a w κ F Q hr hob hc
    have hx:RA C.P s.blk κ F w (use (opAV C.ft s.slot x)).2 (a.eval x):=use_op hr x rfl hob.1
    rw [hxe] at hx
    simp only [RA] at hx
    have:=main s a w κ F Q b ((s.blk b).gen+1) [] ys hr (elems_ok hr hys (use_op hr y rfl hob.2)) (Nat.lt_succ_self _) ⟨none,0,hx,.inl ⟨rfl,rfl,rfl⟩⟩ (fun q cap hq hqn _=>by rw [hx] at hq;simp only [Value.slice.injEq] at hq;exact absurd hq.1.symm hqn) (by simpa using hc)
    exact this
   ·rename_i e' xs hxe
    split at h
    ·rename_i hee
     subst hee
     simp only [Rd.run_bindO,Option.bind_eq_some_iff] at h
     obtain ⟨⟨ys,l⟩,hys,h⟩:=h
     obtain ⟨b,hb,hk⟩:=newB_some h
     simp only [Option.some.injEq] at hk
     subst hk
     intro a w κ F Q hr hob hc
     have hx:RA C.P s.blk κ F w (use (opAV C.ft s.slot x)).2 (a.eval x):=use_op hr x rfl hob.1
     rw [hxe] at hx
     obtain ⟨hx1,q0,hx2⟩:=hx
     have hxs:(asDen (.slice e') (.val (.slice e') xs)).run s.blk=some (xs,[]):=by
      simp [asDen,castDen]
     exact main s a w κ F Q b ((s.blk b).gen+1) xs ys hr (elems_ok hr hys (use_op hr y rfl hob.2)) (Nat.lt_succ_self _) (elems_ok hr hxs hx1) (fun q cap hq hqn hroom=>by
      rw [hx2] at hq
      simp only [Value.slice.injEq] at hq
      have:=hc.1
      omega) hc.2
    ·cases h
   ·cases h
  ·cases h
 ·cases h
end
end Go.Fer
namespace Go.Fer
open Go.RowKit
theorem FnSpec.weaken {P:Program} {k:FuncId} {ts tr:Ty} {sh sh':ts.Den→M tr.Den} (h:FnSpec P k ts tr sh) (hs:∀ x,M.le (sh x) (sh' x)):FnSpec P k ts tr sh' where
 enter:=h.enter
 calls:=fun F w args x hF ha hsafe=>by
  obtain ⟨h1,h2⟩:=hs x hsafe
  exact (h.calls F w args x hF ha h1).mono fun e w' ⟨v,y,e1,e2,e3⟩=>⟨v,y,e1,h2 y e2,e3⟩
def FC.sh (c:FC) (x:c.ts.Den):M c.tr.Den:=M.det (c.pre x) (c.g x)
def CtrOk (P:Program) (Φ:Nat→Option FC):Prop:=∀ k c,Φ k=some c→FnSpec P k c.ts c.tr c.sh
theorem asArgs_single {t:Ty} (ht:t.single=true) (avs:List AV):asArgs t avs=(match avs with | [v]=>asDen t v | _=>.none:Rd (Option (t.Den×List Nat))):=by
 cases t<;>first
  | (cases ht;done)
  | (rcases avs with _ | ⟨v,_ | ⟨u,vs⟩⟩<;>rfl)
theorem asArgs_ok {P:Program} {H:Nat→ABlk} {κ:Nat→KB} {F F':Nat→Prop} {w:World} (hB:∀ b,HB P H κ F w b) (hF:∀ r,F r→F' r):∀ (t:Ty) {avs:List AV} {vs:List Value} {x:t.Den} {l:List Nat},(asArgs t avs).run H=some (x,l)→
  FzIn H κ F' l→avs.length=vs.length→(∀ i (h:i<avs.length) (h':i<vs.length),RA P H κ F w avs[i] vs[i])→RArgs P t F' w vs x:=by
 have single:∀ (t:Ty),t.single=true→∀ {avs:List AV} {vs:List Value} {x:t.Den} {l:List Nat},(match avs with | [v]=>asDen t v | _=>.none:Rd (Option (t.Den×List Nat))).run H=some (x,l)→
   FzIn H κ F' l→avs.length=vs.length→(∀ i (h:i<avs.length) (h':i<vs.length),RA P H κ F w avs[i] vs[i])→RArgs P t F' w vs x:=by
  intro t ht avs vs x l h hl hlen hall
  split at h
  ·rename_i v
   match vs,hlen with
   | [u],_=>
    refine (RArgs_single ht).2 ⟨u,rfl,asDen_ok hB hF h hl ?_⟩
    exact hall 0 (by simp) (by simp)
  ·cases h
 intro t
 induction t with
 | prod a b iha ihb=>
  intro avs vs x l h hl hlen hall
  match avs,vs,hlen with
  | [],_,_=>simp [asArgs,Rd.none] at h
  | v::avs,u::vs,hlen=>
   simp only [asArgs,Rd.run_bindO,Option.bind_eq_some_iff,Rd.run_ret,Option.some.injEq,Prod.mk.injEq] at h
   obtain ⟨⟨y,m⟩,h1,⟨z,m'⟩,h2,rfl,rfl⟩:=h
   refine RArgs_cons.2 ⟨asDen_ok hB hF h1 hl.left (hall 0 (by simp) (by simp)),?_⟩
   exact ihb h2 hl.right (by simpa using hlen) fun i hi hi'=>by
    have:=hall (i+1) (by simpa using hi) (by simpa using hi');simpa using this
 | unit=>
  intro avs vs x l h hl hlen hall
  match avs,vs,hlen with
  | [],[],_=>exact ⟨rfl,rfl⟩
  | _::_,_,_=>simp [asArgs,Rd.none] at h
 | bool=>intro avs vs x l h;rw [asArgs_single rfl] at h;exact single _ rfl h
 | int k=>intro avs vs x l h;rw [asArgs_single rfl] at h;exact single (.int k) rfl h
 | str=>intro avs vs x l h;rw [asArgs_single rfl] at h;exact single _ rfl h
 | st t _=>intro avs vs x l h;rw [asArgs_single rfl] at h;exact single (.st t) rfl h
 | slice e _=>intro avs vs x l h;rw [asArgs_single rfl] at h;exact single (.slice e) rfl h
 | array n e _=>intro avs vs x l h;rw [asArgs_single rfl] at h;exact single (.array n e) rfl h
 | ptr e _=>intro avs vs x l h;rw [asArgs_single rfl] at h;exact single (.ptr e) rfl h
 | map k v _ _=>intro avs vs x l h;rw [asArgs_single rfl] at h;exact single (.map k v) rfl h
 | fn a b _ _=>intro avs vs x l h;rw [asArgs_single rfl] at h;exact single (.fn a b) rfl h
 | it a _=>intro avs vs x l h;rw [asArgs_single rfl] at h;exact single (.it a) rfl h
theorem asArgs_closed {H:Nat→ABlk}:∀ (t:Ty) {avs:List AV} {x:t.Den} {l:List Nat},(asArgs t avs).run H=some (x,l)→Closed H l:=by
 have single:∀ (t:Ty),t.single=true→∀ {avs:List AV} {x:t.Den} {l:List Nat},(match avs with | [v]=>asDen t v | _=>.none:Rd (Option (t.Den×List Nat))).run H=some (x,l)→Closed H l:=by
  intro t _ avs x l h
  split at h
  ·exact asDen_closed h
  ·cases h
 intro t
 induction t with
 | prod a b iha ihb=>
  intro avs x l h
  match avs with
  | []=>simp [asArgs,Rd.none] at h
  | v::avs=>
   simp only [asArgs,Rd.run_bindO,Option.bind_eq_some_iff,Rd.run_ret,Option.some.injEq,Prod.mk.injEq] at h
   obtain ⟨⟨y,m⟩,h1,⟨z,m'⟩,h2,rfl,rfl⟩:=h
   exact (asDen_closed h1).append (ihb h2)
 | unit=>
  intro avs x l h
  match avs with
  | []=>
   simp only [asArgs,Rd.run_ret,Option.some.injEq,Prod.mk.injEq] at h
   rw [←h.2]
   exact .nil H
  | _::_=>simp [asArgs,Rd.none] at h
 | bool=>intro avs x l h;rw [asArgs_single rfl] at h;exact single _ rfl h
 | int k=>intro avs x l h;rw [asArgs_single rfl] at h;exact single (.int k) rfl h
 | str=>intro avs x l h;rw [asArgs_single rfl] at h;exact single _ rfl h
 | st t _=>intro avs x l h;rw [asArgs_single rfl] at h;exact single (.st t) rfl h
 | slice e _=>intro avs x l h;rw [asArgs_single rfl] at h;exact single (.slice e) rfl h
 | array n e _=>intro avs x l h;rw [asArgs_single rfl] at h;exact single (.array n e) rfl h
 | ptr e _=>intro avs x l h;rw [asArgs_single rfl] at h;exact single (.ptr e) rfl h
 | map k v _ _=>intro avs x l h;rw [asArgs_single rfl] at h;exact single (.map k v) rfl h
 | fn a b _ _=>intro avs x l h;rw [asArgs_single rfl] at h;exact single (.fn a b) rfl h
 | it a _=>intro avs x l h;rw [asArgs_single rfl] at h;exact single (.it a) rfl h
theorem elemsD_closed {H:Nat→ABlk} {e:Ty} {ps:List (Nat×AV)}:∀ (n i:Nat) {xs:List e.Den} {l:List Nat},(elemsD e ps i n).run H=some (xs,l)→Closed H l:=by
 intro n
 induction n with
 | zero=>intro i xs l h;cases h;exact .nil H
 | succ n ih=>
  intro i xs l h
  simp only [elemsD,Rd.run_bindO,Option.bind_eq_some_iff,Rd.run_ret,Option.some.injEq,Prod.mk.injEq] at h
  obtain ⟨⟨x,m⟩,h1,⟨ys,m'⟩,h2,rfl,rfl⟩:=h
  refine Closed.append ?_ (ih (i+1) h2)
  split at h1
  ·exact asDen_closed h1
  ·simp only [Rd.run_ret,Option.some.injEq,Prod.mk.injEq] at h1
   rw [←h1.2]
   exact .nil H
theorem RArgs_pure {P:Program} {F F':Nat→Prop} {w w':World} {t:Ty} {vs:List Value} {x:t.Den} (ht:t.pure=true) (h:RArgs P t F w vs x):RArgs P t F' w' vs x:=⟨h.1,RC_pure t ht h.2⟩
theorem args_ok {P:Program} {H:Nat→ABlk} {κ:Nat→KB} {F:Nat→Prop} {w:World}:∀ (t:Ty) {vs:List Value} {y:t.Den},RArgs P t F w vs y→t≠.unit→vs.length=resN t∧∀ i,i<resN t→RA P H κ F w (resAV t y i) (vs.getD i Go.undef):=by
 intro t
 induction t with
 | prod a b _ ihb=>
  intro vs y h _
  obtain ⟨v,us,rfl,h1,h2⟩:=RArgs_prod h
  by_cases hb:b=.unit
  ·subst hb
   have:us=[]:=h2.1
   subst this
   refine ⟨rfl,fun i hi=>?_⟩
   cases i with
   | zero=>exact h1
   | succ i=>simp only [resN] at hi;omega
  ·obtain ⟨k1,k2⟩:=ihb h2 hb
   refine ⟨by simp [resN,k1],fun i hi=>?_⟩
   cases i with
   | zero=>exact h1
   | succ i=>
    have:=k2 i (by simp only [resN] at hi;omega)
    simpa [resAV] using this
 | unit=>intro vs y _ h;exact absurd rfl h
 | _=>
  intro vs y h _
  obtain ⟨v,rfl,h1⟩:=(RArgs_single rfl).1 h
  refine ⟨rfl,fun i hi=>?_⟩
  simp only [resN] at hi
  have:i=0:=by omega
  subst this
  exact h1
theorem resV_ok {P:Program} {H:Nat→ABlk} {κ:Nat→KB} {F:Nat→Prop} {w:World} {t:Ty} {v:Value} {y:t.Den} (h:RRes P t F w v y):RA P H κ F w (resV t y) v:=by
 have tup:=@args_ok P H κ F w
 obtain ⟨vs,h1,h2⟩:=h
 cases t with
 | prod a b=>
  simp only [ResVal] at h1
  obtain ⟨k1,k2⟩:=tup (.prod a b) h2 (by simp)
  exact ⟨vs,h1,k1,k2⟩
 | unit=>exact h1.1
 | _=>
  obtain ⟨u,rfl,hu⟩:=(RArgs_single rfl).1 h2
  have:v=u:=by simpa [ResVal,eq_comm] using h1
  rw [this]
  exact hu
section
variable {C:Ctx} {T:Nat→Ty} {Φ:Nat→Option FC} {o:Oper} {s:AState} {res:OpRes}
theorem RelK.grow {a:Act} {w w':World} {κ:Nat→KB} {F:Nat→Prop} (h:RelK C s a w κ F) (hb:Below w.heap.size w w'):RelK C s a w' κ (Grow F w w'):=by
 have he:Ext F w w':=⟨hb.size,fun r hr=>hb.block r (h.fsz r hr)⟩
 refine h.move (H':=s.blk) (Later.refl _ _) (fun _ hr=>.inl hr) (fun r hr=>hr.imp id fun hr=>.inr hr.1) hb.size (fun r hr _=>hb.block r hr) ⟨hb.os,hb.tape,hb.output⟩ (fun _=>?_) ?_ h.inj ?_ (fun _ _ h=>⟨rfl,h⟩)
 ·intro b
  exact HB.other (h.blks b) (Later.refl _ _) (fun _ hr=>.inl hr) he rfl rfl fun ho=>hb.block _ (h.own b ho).1
 ·intro b ho
  have:=h.own b ho
  refine ⟨Nat.lt_of_lt_of_le this.1 hb.size,fun hf=>?_,.inl ⟨b,ho,rfl⟩⟩
  rcases hf with hf | ⟨hf,_⟩
  ·exact this.2.1 hf
  ·omega
 ·intro r hr
  rcases hr with hr | ⟨_,hr⟩
  ·exact Nat.lt_of_lt_of_le (h.fsz r hr) hb.size
  ·exact hr
theorem oper_call {r:Option Nat} {P:Program} {o:Oper} {a:Act} {w:World} {K:Act→World→Prop} {Q:Exit→Act→World→Prop} {f:FuncId} {args:Array Value} {R:Ending→World→Prop} (hd:∀ c,o.op≠.defer c)
  (h:(execOp a.eval o).run P w=.ok (.enter f args) w) (hc:Calls P f args w R) (hk:∀ e w',R e w'→∃ v,e=.returned v∧K (a.put o.dst v) w'):o.wpIn (rnd r) 0 P a w K Q:=by
 refine ⟨fun _ _=>trivial,?_⟩
 rw [semAt_rnd hd,h]
 refine ⟨fun hs=>(by cases hs),?_⟩
 have h1:CallsIn Fence.wide 0 P f args w R:=callsIn_wide.2 hc
 have h2:CallsIn (rnd r) 0 P f args w R:=by
  cases r with
  | none=>exact h1
  | some l=>exact CallsIn.inRound l h1
 refine h2.mono fun e w' he=>?_
 obtain ⟨v,rfl,hv⟩:=hk e w' he
 exact hv
theorem call_ok {a:Act} {w:World} {κ:Nat→KB} {F:Nat→Prop} {Q:Exit→Act→World→Prop} {K:Act→World→Prop} {k:FuncId} {ts tr:Ty} {sh:ts.Den→M tr.Den} (hr:RelK C s a w κ F) (hf:FnSpec C.P k ts tr sh)
  (hdst:∀ i,o.dst=some i→i<C.nt) {args:Array Operand} {tys:Array TypeId} (ho:o.op=.call { callee:=.value (.func k),args:=args,argTypes:=tys }) (hob:usesObL (args.toList.map (opAV C.ft s.slot))) {x:ts.Den} {l:List Nat}
  (hx:(asArgs ts ((args.toList.map (opAV C.ft s.slot)).map fun v=>(use v).2)).run s.blk=some (x,l)) (hs:(sh x).safe)
  (hk:∀ y w',(sh x).out y→∀ v,Rel C ((if tr.pure then s else s.frz l).set o.dst (resV tr y)) (a.put o.dst v) w'→K (a.put o.dst v) w'):o.wpIn (rnd C.r) 0 C.P a w K Q:=by
 have hd:∀ c,o.op≠.defer c:=by rw [ho];intro c hc;cases hc
 obtain ⟨args⟩:=args
 have hrun:(execOp a.eval o).run C.P w=.ok (.enter k (args.map a.eval).toArray) w:=by
  simp only [execOp,ho,Sem.run_bind,resolve,Act.eval,Deferred.ofValue,Sem.run_pure,Result.andThen_ok,invoke]
  have:=hf.enter (args.map a.eval).toArray w
  simpa [Act.eval] using this
 obtain ⟨F',f1,hr',f2⟩:=RelK.frzL (asArgs_closed ts hx) hr
 have hargs:RArgs C.P ts F' w (args.map a.eval) x:=by
  refine asArgs_ok hr.blks f1 ts hx f2 (by simp) fun i hi hi'=>?_
  simp only [List.getElem_map]
  have hi2:i<args.length:=by simpa using hi'
  have h1:=usesObL_spec hob i (by simpa using hi2)
  have e1:(args.map (opAV C.ft s.slot)).getD i .undef=opAV C.ft s.slot args[i]:=by simp [List.getD_eq_getElem?_getD,hi2]
  rw [show (List.map (opAV C.ft s.slot) (⟨args⟩:Array Operand).toList)=args.map (opAV C.ft s.slot) from rfl,e1] at h1
  exact use_ok (opAV_ok hr args[i]) h1
 refine oper_call hd hrun (hf.calls F' w _ x hr'.fsz hargs hs) fun e w' ⟨v,y,he,hy,hres,hb⟩=>⟨v,he,hk y w' hy v ?_⟩
 by_cases hp:tr.pure=true
 ·rw [if_pos hp]
  have hg:=hr.grow hb
  refine ⟨κ,_,hg.set hdst (resV_ok ?_)⟩
  obtain ⟨vs,q1,q2⟩:=hres
  exact ⟨vs,q1,RArgs_pure hp q2⟩
 ·rw [if_neg hp]
  have hg:=hr'.grow hb
  exact ⟨κ,_,hg.set hdst (resV_ok hres)⟩
theorem ok_callF (hΦ:CtrOk C.P Φ) {k:FuncId} {args:Array Operand} {tys:Array TypeId} (hdst:∀ i,o.dst=some i→i<C.nt) (ho:o.op=.call { callee:=.value (.func k),args:=args,argTypes:=tys }) (h:(opV C.ft T Φ (opAV C.ft s.slot) o).run s.blk=some res):OpOk C o s res:=by
 simp only [opV,ho,callV,callFV] at h
 split at h
 ·rename_i c hc
  simp only [Rd.run_bindO,Option.bind_eq_some_iff,Rd.run_bind,Rd.run_ret,Option.some.injEq] at h
  obtain ⟨⟨x,l⟩,hx,rfl⟩:=h
  intro a w κ F Q hr hob hpre
  refine call_ok hr (hΦ k c hc) hdst ho hob hx hpre fun y w' hy v hrel=>?_
  have hy:y=c.g x:=hy
  subst hy
  have e:∀ (r:Rd (List (Nat×ABlk))),r=(if c.tr.pure then .ret [] else frzB l)→s.setBs (r.run s.blk)=(if c.tr.pure then s else s.frz l):=by
   intro r hr
   subst hr
   split
   ·rfl
   ·exact setBs_frz s l
  simp only [AState.app]
  rw [e _ rfl]
  exact hrel
 ·cases h
theorem elemsD_ok {P:Program} {H:Nat→ABlk} {κ:Nat→KB} {F F':Nat→Prop} {w:World} (hB:∀ b,HB P H κ F w b) (hF:∀ r,F r→F' r) {e:Ty} {zero:List Value} (hz:RC P e F' w zero e.dflt) {ps:List (Nat×AV)} {qs:List (Nat×Value)} (hlen:ps.length=qs.length)
  (hall:∀ i (h:i<ps.length) (h':i<qs.length),ps[i].1=qs[i].1∧RA P H κ F w ps[i].2 qs[i].2):∀ (n i:Nat) {xs:List e.Den} {l:List Nat},(elemsD e ps i n).run H=some (xs,l)→
  FzIn H κ F' l→xs.length=n∧∀ j (h:j<xs.length),∃ ds,RC P e F' w ds xs[j]∧(match qs.find? (fun p=>p.1 == i+j) with | some q=>ds=q.2.cells.toList | none=>ds=zero):=by
 have find:∀ (ps:List (Nat×AV)) (qs:List (Nat×Value)),ps.length=qs.length→(∀ i (h:i<ps.length) (h':i<qs.length),ps[i].1=qs[i].1∧RA P H κ F w ps[i].2 qs[i].2)→∀ i,
   (ps.find? (fun p=>p.1 == i)=none∧qs.find? (fun p=>p.1 == i)=none)∨∃ p q,ps.find? (fun p=>p.1 == i)=some p∧qs.find? (fun p=>p.1 == i)=some q∧RA P H κ F w p.2 q.2:=by
  intro ps
  induction ps with
  | nil=>intro qs hl _ i;cases qs with | nil=>exact .inl ⟨rfl,rfl⟩ | cons _ _=>simp at hl
  | cons p ps ih=>
   intro qs hl h i
   cases qs with
   | nil=>simp at hl
   | cons q qs=>
    have h0:=h 0 (by simp) (by simp)
    simp only [List.getElem_cons_zero] at h0
    by_cases hp:p.1=i
    ·refine .inr ⟨p,q,?_,?_,h0.2⟩
     ·simp [hp]
     ·simp [←h0.1,hp]
    ·have hq:q.1≠i:=by rw [←h0.1];exact hp
     have:=ih qs (by simpa using hl) (fun j hj hj'=>by have:=h (j+1) (by simpa using hj) (by simpa using hj');simpa using this) i
     simpa [List.find?_cons,hp,hq] using this
 intro n
 induction n with
 | zero=>intro i xs l h _;cases h;exact ⟨rfl,fun j hj=>by simp at hj⟩
 | succ n ih=>
  intro i xs l h hl
  simp only [elemsD,Rd.run_bindO,Option.bind_eq_some_iff,Rd.run_ret,Option.some.injEq,Prod.mk.injEq] at h
  obtain ⟨⟨x,m⟩,h1,⟨ys,m'⟩,h2,rfl,rfl⟩:=h
  obtain ⟨k1,k2⟩:=ih (i+1) h2 hl.right
  refine ⟨by simp [k1],fun j hj=>?_⟩
  cases j with
  | zero=>
   rcases find ps qs hlen hall i with ⟨f1,f2⟩ | ⟨p,q,f1,f2,f3⟩
   ·rw [f1] at h1
    simp only [Rd.run_ret,Option.some.injEq,Prod.mk.injEq] at h1
    obtain ⟨rfl,rfl⟩:=h1
    refine ⟨zero,hz,?_⟩
    rw [Nat.add_zero,f2]
   ·rw [f1] at h1
    refine ⟨q.2.cells.toList,(asDen_ok hB hF h1 hl.left f3).2,?_⟩
    rw [Nat.add_zero,f2]
  | succ j=>
   obtain ⟨ds,d1,d2⟩:=k2 j (by simpa using hj)
   refine ⟨ds,by simpa using d1,?_⟩
   rw [show i+(j+1)=i+1+j from by omega]
   exact d2
end
end Go.Fer
namespace Go.Fer
open Go.RowKit
def ckFields (d:Nat) (em:Bool) (xs:Array Value):List Field→Sem Unit
 | []=>pure ()
 | f::fs=>
  if f.name ≠ "_" then do
   let a ←part f.type xs f.offset
   Instr.checkKey em d f.type a
   ckFields d em xs fs
  else ckFields d em xs fs
theorem run_checkKey_struct {P:Program} (w:World) (em:Bool) (d:Nat) (t:TypeId) (xs:Array Value) (ht:P.underlying t=some (.struct (P.fieldsOf t))) :
  (Instr.checkKey em (d+1) t (.agg xs)).run P w=(ckFields d em xs (P.fieldsOf t).toList).run P w:=by
 simp only [Instr.checkKey,Sem.run_bind,run_underlying' ht,Result.andThen_ok]
 rw [←Array.forIn_toList]
 generalize (P.fieldsOf t).toList=fs
 clear ht
 induction fs generalizing w with
 | nil=>simp [ckFields]
 | cons f fs ih=>
  simp only [List.forIn_cons,ckFields,Sem.run_bind,Sem.run_ite]
  split
  ·generalize (part f.type xs f.offset).run P w=r1
   cases r1 with
   | ok a w1=>
    simp only [Result.andThen_ok]
    generalize (Instr.checkKey em d f.type a).run P w1=r2
    cases r2 with
    | ok b w2=>
     simp only [Result.andThen_ok,Sem.run_pure]
     exact ih w2
    | halt x w2=>simp [Result.andThen]
   | halt x w1=>simp [Result.andThen]
  ·simp only [Sem.run_pure,Result.andThen_ok]
   exact ih w
theorem checkKey_ok {P:Program} {F:Nat→Prop} {w:World} {em:Bool}:∀ (t:Ty) (d:Nat),t.comparable=true→t.nest≤d→
  (∀ {id:TypeId} {v:Value} {x:t.Den},TyIs P t id→RV P t F w v x→(Instr.checkKey em d id v).run P w=.ok () w)∧
  (∀ {l:List Field} {off:Nat} {xs:Array Value} {p c q:List Value} {x:t.Den},tyChk P t (.inr (l,off))=true→xs.toList=p++(c++q)→p.length=off→RC P t F w c x→
   (ckFields d em xs l).run P w=.ok () w):=by
 intro t
 induction t with
 | bool=>
  intro d _ hd
  refine ⟨fun {id v x} h h1=>?_,fun h=>by simp [tyChk] at h⟩
  rw [RV_bool.1 h1]
  obtain ⟨d,rfl⟩:∃ e,d=e+1:=⟨d - 1,by simp only [Ty.nest] at hd;omega⟩
  unfold TyIs at h
  simp only [tyChk,Bool.and_eq_true] at h
  obtain ⟨_,h⟩:=h
  split at h
  ·rename_i hu;simp [Instr.checkKey,run_underlying' hu]
  ·cases h
 | int k=>
  intro d _ hd
  refine ⟨fun {id v x} h h1=>?_,fun h=>by simp [tyChk] at h⟩
  rw [(RV_int.1 h1).1]
  obtain ⟨d,rfl⟩:∃ e,d=e+1:=⟨d - 1,by simp only [Ty.nest] at hd;omega⟩
  simp [Instr.checkKey,run_underlying' (TyIs.int h)]
 | str=>
  intro d _ hd
  refine ⟨fun {id v x} h h1=>?_,fun h=>by simp [tyChk] at h⟩
  rw [(RV_str.1 h1).1]
  obtain ⟨d,rfl⟩:∃ e,d=e+1:=⟨d - 1,by simp only [Ty.nest] at hd;omega⟩
  simp [Instr.checkKey,run_underlying' (TyIs.str h)]
 | unit=>intro d h;cases h
 | slice e _=>intro d h;cases h
 | array n e _=>intro d h;cases h
 | ptr e _=>intro d h;cases h
 | map k v _ _=>intro d h;cases h
 | fn a b _ _=>intro d h;cases h
 | it a _=>intro d h;cases h
 | prod a b iha ihb=>
  intro d hc hd
  simp only [Ty.comparable,Bool.and_eq_true] at hc
  simp only [Ty.nest] at hd
  have ia:=iha d hc.1 (by omega)
  have ib:=ihb d hc.2 (by omega)
  refine ⟨fun h=>by unfold TyIs at h;simp [tyChk] at h,?_⟩
  intro l off xs p c q x h hx hp hcx
  simp only [RC] at hcx
  obtain ⟨c1,c2,rfl,k1,k2⟩:=hcx
  have l1:=RC_len a k1
  have step : ∀ (f : Field) (rest : List Field), f.offset = off → TyIs P a f.type → f.name ≠ "_" → (ckFields d em xs (f :: rest)).run P w = (ckFields d em xs rest).run P w := by
   intro f rest ho hf hn
   obtain ⟨v,r1,r2⟩:=part_ok (cs:=xs) (p:=p) (c:=c1) (q:=c2++q) hf (by rw [hx];simp) k1
   simp only [ckFields,hn,ne_eq,not_false_eq_true,if_true,Sem.run_bind]
   rw [ho,←hp,r1,Result.andThen_ok,ia.1 hf r2,Result.andThen_ok]
  match l,h with
  | [],h=>simp only [tyChk,Bool.false_eq_true] at h
  | [f],h=>simp only [tyChk,Bool.false_eq_true] at h
  | [f,g],h=>
   simp only [tyChk,Bool.and_eq_true,beq_iff_eq,bne_iff_ne,ne_eq] at h
   obtain ⟨⟨⟨⟨h1,h2⟩,h3⟩,h4⟩,⟨⟨⟨h5,h6⟩,h7⟩,h8⟩⟩:=h
   rw [step f [g] h1 h2 h4]
   obtain ⟨v,r1,r2⟩:=part_ok (cs:=xs) (p:=p++c1) (c:=c2) (q:=q) h6 (by rw [hx];simp) k2
   have e1:(p++c1).length=g.offset:=by simp;omega
   rw [e1] at r1
   simp only [ckFields,h8,ne_eq,not_false_eq_true,if_true,Sem.run_bind,r1,Result.andThen_ok,ib.1 h6 r2,Sem.run_pure]
  | f::g::i::l,h=>
   simp only [tyChk,Bool.and_eq_true,beq_iff_eq,bne_iff_ne,ne_eq] at h
   obtain ⟨⟨⟨⟨h1,h2⟩,h3⟩,h4⟩,h5⟩:=h
   rw [step f _ h1 h2 h4,ib.2 h5 (p:=p++c1) (c:=c2) (q:=q) (by rw [hx];simp) (by simp;omega) k2]
 | st t ih=>
  intro d hc hd
  simp only [Ty.nest] at hd
  obtain ⟨d,rfl⟩:∃ e,d=e+1:=⟨d - 1,by omega⟩
  refine ⟨fun {id v x} h h1=>?_,fun h=>by simp [tyChk] at h⟩
  have i:=ih d hc (by omega)
  obtain ⟨e1,e2,e3,e4⟩:=h.eqs
  obtain ⟨⟨xs,rfl,hxs⟩,hcx⟩:=h1
  simp only [Value.cells,RC] at hcx
  rw [run_checkKey_struct w em d id xs e4]
  rcases e3 with e3 | ⟨f,e3,e5,e6,e7⟩ | ⟨rfl,e3⟩
  ·exact i.2 e3 (p:=[]) (c:=xs.toList) (q:=[]) (by simp) rfl hcx
  ·rw [e3]
   obtain ⟨v,r1,r2⟩:=part_ok (cs:=xs) (p:=[]) (c:=xs.toList) (q:=[]) e6 (by simp) hcx
   simp only [List.length_nil] at r1
   simp only [ckFields,e7,ne_eq,not_false_eq_true,if_true,Sem.run_bind,e5,r1,Result.andThen_ok,i.1 e6 r2,Sem.run_pure]
  ·cases hc
theorem eqDen_iff:∀ (t:Ty),t.comparable=true→∀ (x y:t.Den),eqDen t x y=true↔x=y:=by
 intro t
 induction t with
 | bool=>intro _ x y;simp [eqDen]
 | int k=>intro _ x y;simp [eqDen]
 | str=>intro _ x y;simp [eqDen]
 | st t ih=>intro h x y;exact ih h x y
 | prod a b iha ihb=>
  intro h x y
  simp only [Ty.comparable,Bool.and_eq_true] at h
  simp only [eqDen,Bool.and_eq_true,iha h.1,ihb h.2]
  exact ⟨fun ⟨h1,h2⟩=>Prod.ext h1 h2,fun h=>h ▸ ⟨rfl,rfl⟩⟩
 | _=>intro h;cases h
def Found {k:Ty} {β:Type} (x:k.Den) (es:List MapEntry) (xs:List (k.Den×β)) (i:Nat) (r:Option (Nat×Value)):Prop:=
 (r=none∧∀ p∈xs,eqDen k x p.1=false)∨∃ j e p,es[j]?=some e∧xs[j]?=some p∧eqDen k x p.1=true∧(∀ j' q,j'<j→xs[j']?=some q→eqDen k x q.1=false)∧r=some (i+j,e.val)
theorem Found.next {k:Ty} {β:Type} {x:k.Den} {e:MapEntry} {es:List MapEntry} {p:k.Den×β} {xs:List (k.Den×β)} {i:Nat} {r:Option (Nat×Value)} (h:Found x es xs (i+1) r) (hp:eqDen k x p.1=false):Found x (e::es) (p::xs) i r:=by
 rcases h with ⟨h1,h2⟩ | ⟨j,e',p',h1,h2,h3,h4,h5⟩
 ·exact .inl ⟨h1,fun q hq=>by
   rcases List.mem_cons.1 hq with rfl | hq
   ·exact hp
   ·exact h2 q hq⟩
 ·refine .inr ⟨j+1,e',p',by simpa using h1,by simpa using h2,h3,fun j' q hj' hq=>?_,by rw [h5];congr 2;omega⟩
  cases j' with
  | zero=>simp at hq;rw [←hq];exact hp
  | succ j'=>exact h4 j' q (by omega) (by simpa using hq)
theorem findAsking_ok {P:Program} {F:Nat→Prop} {w:World} {k:Ty} {β:Type} (hc:k.comparable=true) (hn:k.nest≤10000) {kid:TypeId} (hk:TyIs P k kid) {kv:Value} {x:k.Den} (hx:RV P k F w kv x):∀ (es:List MapEntry) (xs:List (k.Den×β)) (i:Nat),
  es.length=xs.length→(∀ (j:Nat) (e:MapEntry) (p:k.Den×β),es[j]?=some e→xs[j]?=some p→RV P k F w e.key p.1)→∃ r,(Instr.findAsking kid kv es i).run P w=.ok r w∧Found x es xs i r
 | [],[],i,_,_=>⟨none,rfl,.inl ⟨rfl,fun p hp=>by cases hp⟩⟩
 | e::es,p::xs,i,hl,h=>by
  have h0:=h 0 e p rfl rfl
  have he:=(equal_ok k 10000 hc hn).1 hk hx h0
  obtain ⟨r,r1,r2⟩:=findAsking_ok (β:=β) hc hn hk hx es xs (i+1) (by simpa using hl) fun j e' p' h1 h2=>h (j+1) e' p' (by simpa using h1) (by simpa using h2)
  cases hq:eqDen k x p.1 with
  | true=>
   refine ⟨some (i,e.val),by simp [Instr.findAsking,Op.equal,Op.maxDepth,he,hq],.inr ⟨0,e,p,rfl,rfl,hq,fun j' q hj'=>by omega,rfl⟩⟩
  | false=>exact ⟨r,by simp [Instr.findAsking,Op.equal,Op.maxDepth,he,hq,r1],r2.next hq⟩
theorem sameNow_ok {P:Program} {F:Nat→Prop} {w:World} {k:Ty} {kid:TypeId} (hk:TyIs P k kid) {d:TypeDesc} (hd:P.underlying kid=some d) {u v:Value} {x y:k.Den} (hu:RV P k F w u x) (hv:RV P k F w v y) {b:Bool} (h:Instr.sameNow d u v=some b):b=eqDen k x y:=by
 cases k with
 | bool=>
  rw [RV_bool.1 hu,RV_bool.1 hv] at h
  cases d<;>simp only [Instr.sameNow,Option.some.injEq,reduceCtorEq] at h
  rw [←h];rfl
 | int k=>
  rw [(RV_int.1 hu).1,(RV_int.1 hv).1] at h
  cases d<;>simp only [Instr.sameNow,if_true,Option.some.injEq,reduceCtorEq] at h
  rw [←h]
  simp only [eqDen]
  exact Bool.beq_eq_decide_eq _ _
 | str=>
  rw [(RV_str.1 hu).1,(RV_str.1 hv).1] at h
  cases d<;>simp only [Instr.sameNow,Option.some.injEq,reduceCtorEq] at h
  rw [←h,beq_toListBytes,ByteArray.toList_eq,ByteArray.toList_eq]
  simp only [eqDen]
  exact Bool.beq_eq_decide_eq _ _
 | st t=>
  obtain ⟨⟨us,rfl,_⟩,_⟩:=hu
  cases d<;>cases v<;>simp [Instr.sameNow] at h
 | array n t=>
  obtain ⟨⟨us,rfl,_⟩,_⟩:=hu
  cases d<;>cases v<;>simp [Instr.sameNow] at h
 | unit=>exact hu.1.elim
 | prod a b=>exact hu.1.elim
 | slice e=>
  obtain ⟨_,a,cap,e1,_⟩:=(RV_leaf rfl).1 hu
  obtain rfl:=(List.cons.inj e1).1
  cases d<;>simp [Instr.sameNow] at h
 | ptr e=>
  obtain ⟨_,hx⟩:=(RV_leaf rfl).1 hu
  rcases hx with ⟨e1,_⟩ | ⟨p,y,ds,e1,_⟩<;>(obtain rfl:=(List.cons.inj e1).1;cases d<;>simp [Instr.sameNow] at h)
 | map k' v'=>
  obtain ⟨_,hx⟩:=(RV_leaf rfl).1 hu
  rcases hx with ⟨e1,_⟩ | ⟨r,es,clk,e1,_⟩<;>(obtain rfl:=(List.cons.inj e1).1;cases d<;>simp [Instr.sameNow] at h)
 | fn a b=>
  obtain ⟨i,z,h1,h2,h3,h4,h5,h6⟩:=infoOk_out hk.info
  unfold TyIs at hk
  simp only [tyChk,Bool.and_eq_true,hd] at hk
  cases d<;>simp [Instr.sameNow] at hk h
 | it a=>
  obtain ⟨i,z,h1,h2,h3,h4,h5,h6⟩:=infoOk_out hk.info
  unfold TyIs at hk
  simp only [tyChk,Bool.and_eq_true,hd] at hk
  cases d<;>simp [Instr.sameNow] at hk h
theorem findNow_ok {P:Program} {F:Nat→Prop} {w:World} {k:Ty} {β:Type} {kid:TypeId} (hk:TyIs P k kid) {d:TypeDesc} (hd:P.underlying kid=some d) {kv:Value} {x:k.Den} (hx:RV P k F w kv x):∀ (es:List MapEntry) (xs:List (k.Den×β)) (i:Nat) {r:Option (Nat×Value)},
  es.length=xs.length→(∀ (j:Nat) (e:MapEntry) (p:k.Den×β),es[j]?=some e→xs[j]?=some p→RV P k F w e.key p.1)→Instr.findNow d kv es i=some r→Found x es xs i r
 | [],[],i,r,_,_,h=>by cases h;exact .inl ⟨rfl,fun p hp=>by cases hp⟩
 | e::es,p::xs,i,r,hl,h,hf=>by
  have h0:=h 0 e p rfl rfl
  simp only [Instr.findNow] at hf
  split at hf
  ·rename_i hs
   have:=sameNow_ok hk hd hx h0 hs
   cases hf
   exact .inr ⟨0,e,p,rfl,rfl,this.symm,fun j' q hj'=>by omega,rfl⟩
  ·rename_i hs
   have:=sameNow_ok hk hd hx h0 hs
   exact (findNow_ok hk hd hx es xs (i+1) (by simpa using hl) (fun j e' p' h1 h2=>h (j+1) e' p' (by simpa using h1) (by simpa using h2)) hf).next this.symm
  ·cases hf
theorem TyIs.und {P:Program} {t:Ty} {id:TypeId} (h:TyIs P t id) (hc:t.comparable=true):∃ d,P.underlying id=some d:=by
 cases t with
 | bool=>
  unfold TyIs at h
  simp only [tyChk,Bool.and_eq_true] at h
  obtain ⟨_,h⟩:=h
  split at h
  ·exact ⟨_,by assumption⟩
  ·cases h
 | int k=>exact ⟨_,TyIs.int h⟩
 | str=>exact ⟨_,TyIs.str h⟩
 | st t=>exact ⟨_,h.eqs.2.2.2⟩
 | prod a b=>unfold TyIs at h;simp [tyChk] at h
 | _=>cases hc
theorem findKey_ok {P:Program} {F:Nat→Prop} {w:World} {k:Ty} {β:Type} (hc:keyOk k=true) {kid:TypeId} (hk:TyIs P k kid) {kv:Value} {x:k.Den} (hx:RV P k F w kv x) {es:List MapEntry} {xs:List (k.Den×β)}
  (hl:es.length=xs.length) (h:∀ (j:Nat) (e:MapEntry) (p:k.Den×β),es[j]?=some e→xs[j]?=some p→RV P k F w e.key p.1):∃ r,(Instr.findKey kid kv es).run P w=.ok r w∧Found x es xs 0 r:=by
 simp only [keyOk,Bool.and_eq_true,decide_eq_true_eq] at hc
 obtain ⟨d,hd⟩:=hk.und hc.1
 simp only [Instr.findKey,Sem.run_bind,run_underlying' hd,Result.andThen_ok]
 cases hn:Instr.findNow d kv es 0 with
 | some r=>exact ⟨r,rfl,findNow_ok hk hd hx es xs 0 hl h hn⟩
 | none=>exact findAsking_ok hc.1 (by omega) hk hx es xs 0 hl h
theorem mget_some {k v:Ty} {es:List (k.Den×v.Den)} {x:k.Den}:∀ {j:Nat} {p:k.Den×v.Den},es[j]?=some p→eqDen k x p.1=true→(∀ j' q,j'<j→es[j']?=some q→eqDen k x q.1=false)→mget es x=some p.2∧∀ y,mset es x y=es.set j (p.1,y):=by
 induction es with
 | nil=>intro j p h;cases h
 | cons q es ih=>
  intro j p h1 h2 h3
  cases j with
  | zero=>
   simp at h1
   subst h1
   exact ⟨by simp [mget,h2],fun y=>by simp [mset,h2]⟩
  | succ j=>
   have h0:=h3 0 q (by omega) rfl
   obtain ⟨k1,k2⟩:=ih (j:=j) (p:=p) (by simpa using h1) h2 fun j' q' hj' hq'=>h3 (j'+1) q' (by omega) (by simpa using hq')
   exact ⟨by simpa [mget,List.find?_cons,h0] using k1,fun y=>by simp [mset,h0,k2 y]⟩
theorem mget_none {k v:Ty} {es:List (k.Den×v.Den)} {x:k.Den} (h:∀ p∈es,eqDen k x p.1=false):mget es x=none∧∀ y,mset es x y=es++[(x,y)]:=by
 induction es with
 | nil=>exact ⟨rfl,fun _=>rfl⟩
 | cons q es ih=>
  have h0:=h q (by simp)
  obtain ⟨k1,k2⟩:=ih fun p hp=>h p (by simp [hp])
  exact ⟨by simpa [mget,List.find?_cons,h0] using k1,fun y=>by simp [mset,h0,k2 y]⟩
section
variable {C:Ctx} {T:Nat→Ty} {Φ:Nat→Option FC} {o:Oper} {s:AState} {res:OpRes}
theorem zero_RV {P:Program} {F:Nat→Prop} {w:World} {v:Ty} {z:Value} (hv:v.isLeaf=true∨v.isAgg=true) (i5:zeroRest v z.cells.toList=some []) (i6:(∃ cs,z=.agg cs)↔v.isAgg=true):RV P v F w z v.dflt:=by
 obtain ⟨c,e,z1,z2⟩:=zeroRest_ok (P:=P) (H:=fun _=>⟨0,.dead⟩) (κ:=fun _=>⟨0,0,0,true⟩) (F:=F) (w:=w) v i5
 rw [List.append_nil] at e
 refine ⟨?_,by rw [e];exact z1⟩
 have hl:=RC_len v z1
 rcases hv with hv | hv
 ·obtain ⟨u,rfl,hu⟩:=leaf_cells hv z1
  have hna:∀ cs,z≠.agg cs:=fun cs hz=>by
   have:=i6.1 ⟨cs,hz⟩
   cases v<;>simp [Ty.isLeaf,Ty.isAgg] at hv this
  have hz:z.cells=#[z]:=by
   cases z<;>first | rfl | exact absurd rfl (hna _)
  cases v<;>simp only [Ty.isLeaf,Bool.false_eq_true] at hv<;>exact hz
 ·obtain ⟨cs,rfl⟩:=i6.2 hv
  have e':cs.toList=c:=e
  cases v<;>simp only [Ty.isAgg,Bool.false_eq_true] at hv
  ·exact ⟨cs,rfl,by rw [←Array.length_toList,e',hl];rfl⟩
  ·exact ⟨cs,rfl,by rw [←Array.length_toList,e',hl];rfl⟩
def EsIs (P:Program) (k v:Ty) (F:Nat→Prop) (w:World) (ms:List MapEntry) (xs:List (k.Den×v.Den)):Prop:=
 ms.length=xs.length∧∀ (j:Nat) (e:MapEntry) (p:k.Den×v.Den),ms[j]?=some e→xs[j]?=some p→RV P k F w e.key p.1∧RV P v F w e.val p.2
theorem MapIs.es {P:Program} {k v:Ty} {F:Nat→Prop} {w:World} {ms:Array MapEntry} {clk:Nat} {xs:List (k.Den×v.Den)} (h:MapIs P k v F w ms clk xs):EsIs P k v F w ms.toList xs:=by
 obtain ⟨h1,h2,h3,h4⟩:=h
 refine ⟨by simpa using h1,fun j e p he hp=>?_⟩
 obtain ⟨hj,rfl⟩:=List.getElem?_eq_some_iff.1 hp
 obtain ⟨hj',rfl⟩:=List.getElem?_eq_some_iff.1 he
 obtain ⟨a,b,c,d,_⟩:=h3 j hj (by simpa using hj')
 exact ⟨⟨a,by simpa using b⟩,c,by simpa using d⟩
theorem mapEs_ok {a:Act} {w:World} {κ:Nat→KB} {F:Nat→Prop} (hr:RelK C s a w κ F) {k v:Ty} {av:AV} {u:Value} {xs:List (k.Den×v.Den)} (h:(mapEs k v av).run s.blk=some xs) (hu:RA C.P s.blk κ F w av u) :
  (u=.map none∧xs=[])∨∃ r ms clk,u=.map (some r)∧w.heap[r]?=some (.map ms clk)∧EsIs C.P k v F w ms.toList xs:=by
 have frz:∀ {xs:List (k.Den×v.Den)},RC C.P (.map k v) F w [u] xs→(u=.map none∧xs=[])∨∃ r ms clk,u=.map (some r)∧w.heap[r]?=some (.map ms clk)∧EsIs C.P k v F w ms.toList xs:=by
  intro xs hx
  rcases hx with ⟨e1,e2⟩ | ⟨r,ms,clk,e1,h1,h2,h3,h4,h5,h6⟩
  ·exact .inl ⟨(List.cons.inj e1).1,e2⟩
  ·exact .inr ⟨r,ms,clk,(List.cons.inj e1).1,h2,MapIs.es ⟨h3,h4,h5,h6⟩⟩
 cases av with
 | val t es=>
  simp only [mapEs,Rd.run_ret] at h
  exact frz ((RV_leaf rfl).1 (cast_RV h hu)).2
 | raw x=>
  simp only [RA] at hu
  subst hu
  have hx:u=.map none∧xs=[]:=by
   unfold mapEs at h
   split at h
   ·rename_i e;cases e
   ·rename_i e
    simp only [Rd.run_ret,Option.some.injEq] at h
    exact ⟨AV.raw.inj e,h.symm⟩
   ·rename_i e;cases e
   ·cases h
  exact .inl hx
 | mapl b g=>
  simp only [mapEs,Rd.run_get,Rd.run_ret] at h
  split at h
  ·rename_i hg
   have hB:=hr.blks b
   unfold HB at hB
   split at h
   ·rename_i k' v' es hb
    obtain ⟨e,rfl⟩:=castDen_some h
    cases e
    rw [hb] at hB
    obtain ⟨ms,clk,h1,h2⟩:=hB
    exact .inr ⟨_,ms,clk,hu.2 hg.symm (by rw [hb];rfl),h1,h2.es⟩
   ·rename_i k' v' es hb
    obtain ⟨e,rfl⟩:=castDen_some h
    cases e
    rw [hb] at hB
    have:=hu.2 hg.symm (by rw [hb];rfl)
    simp only [HBody] at hB
    rw [←this] at hB
    exact frz hB
   ·cases h
  ·cases h
 | _=>cases h
theorem ok_makeMap {ty:TypeId} {r:Option Operand} (hdst:∀ i,o.dst=some i→i<C.nt) (ho:o.op=.makeMap ty r) (h:(opV C.ft T Φ (opAV C.ft s.slot) o).run s.blk=some res):OpOk C o s res:=by
 simp only [opV,ho] at h
 split at h
 ·cases h
 ·rename_i hrn
  have hrn:r=none:=by simpa using hrn
  subst hrn
  split at h
  ·rename_i k v ht
   obtain ⟨b,hd,hk⟩:=newB_some h
   simp only [Option.some.injEq] at hk
   subst hk
   intro a w κ F Q hr _ _
   have hrun:(execOp a.eval o).run C.P w=.ok (.value (.map (some w.heap.size))) (w.alloc (.map #[] 0)):=by
    simp [execOp,ho,Instr.makeMap]
   have h1:=hr.alloc (b:=b) (x:=⟨(s.blk b).gen+1,.mp k v []⟩) (hr.small (hdst b hd)) (Nat.lt_succ_self _) (o:=.map #[] 0) (k:=⟨w.heap.size,0,0,false⟩) rfl fun H κ' _ _ _=>
    ⟨#[],0,heap_alloc_new _ _,rfl,by simp,fun i hi=>by simp at hi,fun i j hi=>by simp at hi⟩
   refine oper_value (by rw [ho];intro c hc;cases hc) hrun ⟨_,F,RelK.set (s:=s.setB b _) h1 hdst ⟨⟨by simp [AState.setB],rfl⟩,fun _ _=>by simp⟩⟩
  ·cases h
theorem ok_lookup (hT:TabOk C.P T) {ty:TypeId} {m x:Operand} {ok:Bool} (hdst:∀ i,o.dst=some i→i<C.nt) (ho:o.op=.lookup ty m x ok) (h:(opV C.ft T Φ (opAV C.ft s.slot) o).run s.blk=some res):OpOk C o s res:=by
 simp only [opV,ho,lookOpV] at h
 split at h
 ·rename_i k v ht
  split at h
  ·rename_i hc
   simp only [Bool.and_eq_true,Bool.or_eq_true] at hc
   obtain ⟨i,j,hi,hik,hiv⟩:=(hT.is ht (by simp)).mp
   simp only [Rd.run_bindO,Option.bind_eq_some_iff,okRes,Rd.run_ret,Option.some.injEq] at h
   obtain ⟨es,hes,⟨y,l⟩,hy,rfl⟩:=h
   refine OpOk.pure (by rw [ho];intro c hc;cases hc) hdst fun a w κ F hr hob _=>?_
   have hm:=use_op hr m rfl hob.1
   have hx:=anyDen hr hy (use_op hr x rfl hob.2)
   obtain ⟨inf,z,i1,i2,i3,i4,i5,i6⟩:=infoOk_out hiv.info
   have hzero:RV C.P v F w z v.dflt:=zero_RV hc.2 i5 i6
   have fin:∀ (u:Value) (q:Option v.Den),RV C.P v F w u (q.getD v.dflt)→RA C.P s.blk κ F w (lookRes v q ok) (if ok=true then .tuple #[u,.bool q.isSome] else u):=by
    intro u q h3
    cases ok with
    | true=>
     refine ⟨[u,.bool q.isSome],rfl,rfl,fun i hi=>?_⟩
     match i,hi with
     | 0,_=>exact h3
     | 1,_=>exact RV_bool.2 rfl
    | false=>exact h3
   have kt:keyOk k=true:=hc.1
   have kc:k.comparable=true∧k.nest≤100:=by simpa [keyOk] using kt
   rcases mapEs_ok hr hes hm with ⟨hu,hn⟩ | ⟨r,ms,clk,hu,hw,hE⟩
   ·subst hn
    have hck:=(checkKey_ok (em:=true) k 10000 kc.1 (by omega)).1 hik hx
    obtain ⟨f,f1,f2⟩:=findKey_ok (β:=v.Den) (xs:=[]) (es:=[]) kt hik hx rfl (fun j e p h=>by cases h)
    rcases f2 with ⟨rfl,_⟩ | ⟨j,e,p,h1,_⟩
    ·refine ⟨_,?_,fin z none hzero⟩
     simp only [execOp,ho,hu,Instr.lookup,Sem.run_bind,run_underlying' hi,Result.andThen_ok,Sem.run_pure]
     simp only [show (#[]:Array MapEntry).isEmpty=true from rfl,hck,Result.andThen_ok,f1]
     cases ok<;>simp [run_zeroValue' i1 i4]
    ·cases h1
   ·have hck:=(checkKey_ok (em:=ms.isEmpty) k 10000 kc.1 (by omega)).1 hik hx
    obtain ⟨f,f1,f2⟩:=findKey_ok (β:=v.Den) (xs:=es) (es:=ms.toList) kt hik hx hE.1 (fun j e p h1 h2=>by
     have:=(hE.2 j e p h1 h2).1
     exact ⟨this.1,RC_mono k (fun _ _=>trivial) (Ext.refl F w) this.2⟩)
    have hget:(getObj r).run C.P w=.ok (.map ms clk) w:=by simp [getObj,Sem.run,hw]
    rcases f2 with ⟨rfl,hne⟩ | ⟨j,e,p,h1,h2,h3,h4,rfl⟩
    ·refine ⟨_,?_,by rw [(mget_none hne).1];exact fin z none hzero⟩
     simp only [execOp,ho,hu,Instr.lookup,Sem.run_bind,run_underlying' hi,Result.andThen_ok,Sem.run_pure,hget,hck,f1,run_zeroValue' i1 i4]
     cases ok<;>rfl
    ·refine ⟨_,?_,by rw [(mget_some h2 h3 h4).1];exact fin e.val (some p.2) (hE.2 j e p h1 h2).2⟩
     simp only [execOp,ho,hu,Instr.lookup,Sem.run_bind,run_underlying' hi,Result.andThen_ok,Sem.run_pure,hget,hck,f1]
     cases ok<;>rfl
  ·cases h
 ·cases h
theorem keyStays_run (P:Program) (w:World) (old new:Value):∃ k' w',(Instr.keyThatStays old new).run P w=.ok k' w'∧(k'=new∨k'=old)∧(w'=w∨w'=w.drew):=by
 unfold Instr.keyThatStays
 split
 ·exact ⟨new,w,rfl,.inl rfl,.inl rfl⟩
 ·have hf : (Question.extern "map.whichKeyStays" 2).forced = false := rfl
  simp only [Sem.run_bind,run_choose,hf,Bool.false_eq_true,if_false,Result.andThen_ok]
  split
  ·exact ⟨new,_,rfl,.inl rfl,.inr rfl⟩
  ·exact ⟨old,_,rfl,.inr rfl,.inr rfl⟩
theorem setObj_run {P:Program} {w:World} {r:Nat} {es:Array MapEntry} {clk:Nat} (h:w.heap[r]?=some (.map es clk)) (o:Obj):(setObj r o).run P w=.ok () { w with heap:=w.heap.setIfInBounds r o }:=by
 simp [setObj,Sem.run,h]
theorem ok_mapUpdate (hT:TabOk C.P T) {ty:TypeId} {m x y:Operand} (hdn:o.dst=none) (ho:o.op=.mapUpdate ty m x y∨o.op=.insert ty m x y) (h:(opV C.ft T Φ (opAV C.ft s.slot) o).run s.blk=some res):OpOk C o s res:=by
 have hd:∀ c,o.op≠.defer c:=by rcases ho with ho | ho<;>(rw [ho];intro c hc;cases hc)
 have hop:∀ ρ,opV C.ft T Φ ρ o=mapUpV T ρ ty m x y:=fun ρ=>by rcases ho with ho | ho<;>simp only [opV,ho]
 have hex:∀ ρ w,(execOp ρ o).run C.P w=(do Instr.mapUpdate ty (ρ m) (ρ x) (ρ y);pure .skip:Sem Next).run C.P w:=fun ρ w=>by rcases ho with ho | ho<;>simp only [execOp,ho]
 rw [hop] at h
 simp only [mapUpV] at h
 split at h
 ·rename_i k v ht
  obtain ⟨kid,vid,hi,hik,hiv⟩:=(hT.is ht (by simp)).mp
  split at h
  ·rename_i hc
   split at h
   ·rename_i b g hme
    simp only [Rd.run_bindO,Option.bind_eq_some_iff,Rd.run_bind,Rd.run_get,Rd.run_ret] at h
    obtain ⟨⟨x',lx⟩,hx,⟨y',ly⟩,hy,h⟩:=h
    split at h
    ·rename_i hg
     obtain ⟨hg,hnb⟩:=hg
     have hnb:b ∉ lx++ly:=by
      have:=hnb
      simp only [List.contains_eq_mem,Bool.not_eq_true',decide_eq_false_iff_not] at this
      exact this
     split at h
     ·rename_i k' v' es hb
      simp only [Option.map_eq_some_iff] at h
      obtain ⟨es',hes,rfl⟩:=h
      obtain ⟨e,rfl⟩:=castDen_some hes
      cases e
      intro a w κ F Q hr hob _
      obtain ⟨F',f1,hr',f2⟩:=RelK.frzL ((asDen_closed hx).append (asDen_closed hy)) hr
      have hm:RA C.P s.blk κ F w (use (opAV C.ft s.slot m)).2 (a.eval m):=use_op hr m rfl hob.1
      rw [hme] at hm
      have hmv:=hm.2 hg.symm (by rw [hb];rfl)
      have hkx:=asDen_ok hr.blks f1 hx f2.left (use_op hr x rfl hob.2.1)
      have hvy:=asDen_ok hr.blks f1 hy f2.right (use_op hr y rfl hob.2.2)
      have hbf:(s.frz (lx++ly)).blk b=s.blk b:=by simp only [AState.frz];rw [if_neg hnb]
      have hB:=hr'.blks b
      unfold HB at hB
      rw [hbf,hb] at hB
      obtain ⟨ms,clk,hw,hM⟩:=hB
      have kc:k.comparable=true∧k.nest≤100:=by simpa [keyOk] using hc
      have hck:=(checkKey_ok (em:=false) k 10000 kc.1 (by omega)).1 hik hkx
      have hE:=hM.es
      obtain ⟨f,q1,q2⟩:=findKey_ok (β:=v.Den) (xs:=es) (es:=ms.toList) hc hik hkx hE.1 (fun j e p h1 h2=>(hE.2 j e p h1 h2).1)
      have hget:(getObj (κ b).blk).run C.P w=.ok (.map ms clk) w:=by simp [getObj,Sem.run,hw]
      have hset:s.setBs ((frzB (lx++ly)).run s.blk++[(b,⟨(s.blk b).gen,.mp k v (mset es x' y')⟩)])=(s.frz (lx++ly)).setB b ⟨(s.blk b).gen,.mp k v (mset es x' y')⟩:=by
       rw [setBs_snoc,setBs_frz]
      have hl2:Later (s.frz (lx++ly)).blk κ (fun i=>if i=b then (⟨(s.blk b).gen,.mp k v (mset es x' y')⟩:ABlk) else (s.frz (lx++ly)).blk i) κ:=
       later_same (by rw [hbf]) (fun h=>by cases h) (fun h=>by cases h) (fun _=>by rw [hbf,hb];rfl) (fun h=>by cases h)
      obtain ⟨ksz,knd,kent,kborn⟩:=hM
      have done:∀ (w1:World) (ms':Array MapEntry) (clk':Nat),(w1=w∨w1=w.drew)→
        (execOp a.eval o).run C.P w=.ok .skip { w1 with heap:=w1.heap.setIfInBounds (κ b).blk (.map ms' clk') }→
        (∀ {w'},Ext F' w w'→MapIs C.P k v F' w' ms' clk' (mset es x' y'))→
        o.wpIn (rnd C.r) 0 C.P a w (fun a' w'=>Rel C (s.app o.dst ⟨(use (opAV C.ft s.slot m)).1∧(use (opAV C.ft s.slot x)).1∧(use (opAV C.ft s.slot y)).1,True,.undef,(frzB (lx++ly)).run s.blk++[(b,⟨(s.blk b).gen,.mp k v (mset es x' y')⟩)]⟩) a' w') Q:=by
       intro w1 ms' clk' hw1 hrun hmi
       have hh:w1.heap=w.heap:=by rcases hw1 with rfl | rfl<;>rfl
       have hcm:Calm w w1:=by rcases hw1 with rfl | rfl<;>exact ⟨rfl,rfl,rfl⟩
       refine oper_skip hd hrun ⟨κ,F',?_⟩
       simp only [AState.app]
       rw [hset,hdn]
       refine hr'.write (b:=b) (x:=⟨(s.blk b).gen,.mp k v (mset es x' y')⟩) (by rw [hbf,hb];rfl) rfl hl2 (fun h=>by cases h) (fun _=>by rw [hbf,hb];rfl) (fun r hrb=>?_) (by simp [hh]) ⟨hcm.os,hcm.tape,hcm.output⟩ fun H _ _ he=>?_
       ·simp only [hh]
        exact Array.getElem?_setIfInBounds_ne (Ne.symm hrb)
       ·have hlt:(κ b).blk<w.heap.size:=(Array.getElem?_eq_some_iff.1 hw).1
        exact ⟨ms',clk',by simp [hh,hlt],hmi he⟩
      rcases q2 with ⟨rfl,hne⟩ | ⟨j,e,p,h1,h2,h3,h4,rfl⟩
      ·refine done w (ms.push { key:=a.eval x,val:=a.eval y,born:=clk }) (clk+1) (.inl rfl) ?_ fun {w'} he=>?_
       ·rw [hex]
        simp only [hmv,Instr.mapUpdate,Sem.run_bind,run_underlying' hi,Result.andThen_ok,hget,hck,q1,setObj_run hw,Sem.run_pure]
       ·rw [(mget_none hne).2]
        refine ⟨by simp [ksz],?_,fun i hi hi'=>?_,fun i j hi hj e=>?_⟩
        ·rw [List.map_append,List.nodup_append]
         refine ⟨knd,by simp,fun q hq q' hq'=>?_⟩
         obtain ⟨p,hp,rfl⟩:=List.mem_map.1 hq
         simp only [List.map_cons,List.map_nil,List.mem_singleton] at hq'
         subst hq'
         intro e
         have:=hne p hp
         rw [e,(eqDen_iff k kc.1 _ _).2 rfl] at this
         cases this
        ·by_cases hil:i<es.length
         ·obtain ⟨k1,k2,k3,k4,k5⟩:=kent i hil (by omega)
          have e1:(es++[(x',y')])[i]=es[i]:=List.getElem_append_left hil
          have e2:(ms.push { key:=a.eval x,val:=a.eval y,born:=clk })[i]=ms[i]'(by omega):=Array.getElem_push_lt (by omega)
          rw [e1,e2]
          exact ⟨k1,RC_mono k (fun _ h=>h) he k2,k3,RC_mono v (fun _ h=>h) he k4,by omega⟩
         ·have hie:i=es.length:=by simp at hi;omega
          subst hie
          have e1:(es++[(x',y')])[es.length]=(x',y'):=by simp
          have e2:(ms.push { key:=a.eval x,val:=a.eval y,born:=clk })[es.length]={ key:=a.eval x,val:=a.eval y,born:=clk }:=by
           simp only [←ksz,Array.getElem_push_eq]
          rw [e1,e2]
          exact ⟨hkx.1,RC_mono k (fun _ h=>h) he hkx.2,hvy.1,RC_mono v (fun _ h=>h) he hvy.2,by simp⟩
        ·have born:∀ i (h:i<(ms.push { key:=a.eval x,val:=a.eval y,born:=clk }).size),(∃ h':i<ms.size,(ms.push { key:=a.eval x,val:=a.eval y,born:=clk })[i]=ms[i])∨(i=ms.size∧((ms.push { key:=a.eval x,val:=a.eval y,born:=clk })[i]).born=clk):=by
          intro i h
          by_cases hil:i<ms.size
          ·exact .inl ⟨hil,Array.getElem_push_lt hil⟩
          ·have:i=ms.size:=by simp at h;omega
           subst this
           exact .inr ⟨rfl,by simp⟩
         rcases born i hi with ⟨a1,a2⟩ | ⟨a1,a2⟩<;>rcases born j hj with ⟨b1,b2⟩ | ⟨b1,b2⟩
         ·rw [a2,b2] at e;exact kborn i j a1 b1 e
         ·rw [a2,b2] at e
          have:=(kent i (by omega) a1).2.2.2.2
          omega
         ·rw [a2,b2] at e
          have:=(kent j (by omega) b1).2.2.2.2
          omega
         ·omega
      ·have hj:j<es.length:=(List.getElem?_eq_some_iff.1 h2).1
       have hjm:j<ms.size:=by omega
       have hej:ms[j]=e:=by
        have:=(List.getElem?_eq_some_iff.1 h1).2
        simpa using this
       have hpj:es[j]=p:=(List.getElem?_eq_some_iff.1 h2).2
       have hxp:x'=p.1:=(eqDen_iff k kc.1 _ _).1 h3
       obtain ⟨kk,w1,r1,r2,r3⟩:=keyStays_run C.P w e.key (a.eval x)
       have hw1:w1.heap[(κ b).blk]?=some (.map ms clk):=by rcases r3 with rfl | rfl<;>exact hw
       refine done w1 (ms.modify j fun e=>{ e with key:=kk,val:=a.eval y }) clk r3 ?_ fun {w'} he=>?_
       ·rw [hex]
        rw [Nat.zero_add] at q1
        simp only [hmv,Instr.mapUpdate,Sem.run_bind,run_underlying' hi,Result.andThen_ok,hget,hck,q1]
        have hold:((ms[j]?).map (·.key)).getD (a.eval x)=e.key:=by
         rw [Array.getElem?_eq_getElem hjm,hej];rfl
        rw [hold,r1]
        simp only [Result.andThen_ok,setObj_run hw1,Sem.run_pure]
       ·rw [(mget_some h2 h3 h4).2]
        refine ⟨by simp [ksz],?_,fun i hi hi'=>?_,fun i j' hi hj' e'=>?_⟩
        ·have:(es.set j (p.1,y')).map (·.1)=es.map (·.1):=by
          apply List.ext_getElem?
          intro n
          simp only [List.getElem?_map,List.getElem?_set]
          split
          ·rename_i hjn
           subst hjn
           simp [hj,hpj]
          ·rfl
         rw [this]
         exact knd
        ·have hil:i<es.length:=by simpa using hi
         have him:i<ms.size:=by omega
         obtain ⟨k1,k2,k3,k4,k5⟩:=kent i hil him
         by_cases hij:j=i
         ·subst hij
          have e1:(es.set j (p.1,y'))[j]=(p.1,y'):=by simp
          have e2:(ms.modify j fun e=>{ e with key:=kk,val:=a.eval y })[j]={ key:=kk,val:=a.eval y,born:=ms[j].born }:=by simp [Array.getElem_modify]
          rw [e1,e2]
          have hkk:RV C.P k F' w kk p.1:=by
           rcases r2 with rfl | rfl
           ·rw [←hxp];exact hkx
           ·rw [←hej,←hpj];exact ⟨k1,k2⟩
          exact ⟨hkk.1,RC_mono k (fun _ h=>h) he hkk.2,hvy.1,RC_mono v (fun _ h=>h) he hvy.2,k5⟩
         ·have e1:(es.set j (p.1,y'))[i]=es[i]:=by simp [hij]
          have e2:(ms.modify j fun e=>{ e with key:=kk,val:=a.eval y })[i]=ms[i]:=by simp [Array.getElem_modify,hij]
          rw [e1,e2]
          exact ⟨k1,RC_mono k (fun _ h=>h) he k2,k3,RC_mono v (fun _ h=>h) he k4,k5⟩
        ·have born:∀ i (h:i<(ms.modify j fun e=>{ e with key:=kk,val:=a.eval y }).size),((ms.modify j fun e=>{ e with key:=kk,val:=a.eval y })[i]).born=(ms[i]'(by simpa using h)).born:=by
          intro i h
          simp only [Array.getElem_modify]
          split<;>rfl
         rw [born i hi,born j' hj'] at e'
         exact kborn i j' (by simpa using hi) (by simpa using hj') e'
     ·cases h
    ·cases h
   ·cases h
  ·cases h
 ·cases h
end
end Go.Fer
namespace Go.Fer
open Go.RowKit
section
variable {C:Ctx} {T:Nat→Ty} {Φ:Nat→Option FC} {o:Oper} {s:AState} {res:OpRes}
theorem zeros_row {P:Program} {F:Nat→Prop} {w:World} {e:Ty} {z:Value} (h5:zeroRest e z.cells.toList=some []) (n:Nat) :
  RowL P e F w ((Array.range (n*e.size)).map (fun i=>z.cells[i % z.cells.size]!)).toList (List.replicate n e.dflt):=by
 obtain ⟨c,ec,z1,z2⟩:=zeroRest_ok (P:=P) (H:=fun _=>⟨0,.dead⟩) (κ:=fun _=>⟨0,0,0,true⟩) (F:=F) (w:=w) e h5
 rw [List.append_nil] at ec
 have hzs:z.cells.size=e.size:=by rw [←Array.length_toList,ec];exact RC_len e z1
 refine ⟨by simp,fun i hi=>?_⟩
 have hi':i<n:=by simpa using hi
 have hle:(i+1)*e.size≤n*e.size:=Nat.mul_le_mul_right _ (by omega)
 rw [Nat.add_mul] at hle
 have:((((Array.range (n*e.size)).map (fun i=>z.cells[i % z.cells.size]!)).toList.drop (i*e.size)).take e.size)=z.cells.toList:=by
  apply List.ext_getElem?
  intro j
  simp only [List.getElem?_take,List.getElem?_drop]
  split
  ·rename_i hj
   have hj':j<z.cells.size:=by rw [hzs];exact hj
   rw [Array.getElem?_toList,Array.getElem?_toList]
   have hmod:(i*e.size+j) % z.cells.size=j:=by rw [hzs,Nat.add_comm,Nat.add_mul_mod_self_right,Nat.mod_eq_of_lt hj]
   simp [show i*e.size+j<n*e.size by omega,hmod,hj']
  ·rename_i hj
   rw [List.getElem?_eq_none]
   simp [hzs]
   omega
 rw [this,ec]
 simpa using z1
theorem wrap_small {n:Int} (h0:0≤n) (h1:n≤4294967296):IntKind.i64.wrap n=n:=by
 simp only [IntKind.wrap,IntKind.signed,IntKind.bits]
 simp
 omega
theorem ok_makeSlice (hT:TabOk C.P T) {ty:TypeId} {l c:Operand} (hdst:∀ i,o.dst=some i→i<C.nt) (ho:o.op=.makeSlice ty l c) (h:(opV C.ft T Φ (opAV C.ft s.slot) o).run s.blk=some res):OpOk C o s res:=by
 simp only [opV,ho,makeSlV] at h
 split at h
 ·rename_i e ht
  split at h
  ·rename_i n m hl hm
   have hti:=hT.is ht (by simp)
   obtain ⟨eid,hj,hj2,hj3⟩:=hti.sl
   obtain ⟨inf,z,i1,i2,i3,i4,i5,i6⟩:=infoOk_out hj2.info
   obtain ⟨b,hd,hk⟩:=newB_some h
   simp only [Option.some.injEq] at hk
   subst hk
   intro a w κ F Q hr hob hc
   have hln:=int?_ok (use_op hr l rfl hob.1) hl
   have hcm:=int?_ok (use_op hr c rfl hob.2) hm
   obtain ⟨c0,rfl,c1⟩:0≤n∧n=m∧lenLe n.toNat:=hc
   unfold lenLe at c1
   obtain ⟨k,rfl⟩:∃ k:Nat,n=k:=⟨n.toNat,by omega⟩
   simp only [Int.toNat_natCast] at c1
   have hw:IntKind.i64.wrap (k:Int)=k:=wrap_small (by omega) (by omega)
   let cs:Array Value:=(Array.range (k*e.size)).map (fun i=>z.cells[i % z.cells.size]!)
   have hrow:RowL C.P e F w cs.toList (List.replicate k e.dflt):=zeros_row i5 k
   have hbytes:inf.bytes*k≤2 ^ 47:=by
    calc inf.bytes*k≤1024*4294967296:=Nat.mul_le_mul i3 (by omega)
     _≤2 ^ 47:=by decide
   have hrun:(execOp a.eval o).run C.P w=.ok (.value (.slice (some ⟨w.heap.size,0,none⟩) k k)) (w.alloc (.cells cs eid)):=by
    have h48:¬((inf.bytes:Int)*(k:Int) > 2 ^ 48):=by
     have:((inf.bytes*k:Nat):Int)≤((2 ^ 47:Nat):Int):=by exact_mod_cast hbytes
     have e1:((2 ^ 47:Nat):Int)=140737488355328:=by decide
     have e2:(2:Int) ^ 48=281474976710656:=by decide
     rw [Int.natCast_mul] at this
     omega
    have hk0:¬((k:Int)<0):=by omega
    have hroom:¬(k*inf.bytes > roomBytes):=by
     have:roomBytes=2 ^ 47:=rfl
     rw [this,Nat.mul_comm];omega
    have hkk:¬((k:Int) > (k:Int)):=by omega
    simp only [execOp,ho,Instr.makeSlice,hln.1,hcm.1,Sem.run_bind,run_underlying' hj,Result.andThen_ok,asInt,asIntOf,Sem.run_pure,run_typeInfo' i1,hw,h48,hk0,hkk,decide_false,Bool.or_false,Bool.false_or,Bool.false_eq_true,if_false,run_askRoom,Int.toNat_natCast,run_sizeOf' i1,i2]
    by_cases hn0:k*e.size=0
    ·have hcs0:cs=#[]:=Array.eq_empty_of_size_eq_zero (by simp [cs,hn0])
     rw [hcs0]
     have h00:(Array.map (fun _:Nat=>(default:Value)) (Array.range 0))=#[]:=by simp
     simp [hn0,newRow]
     rw [h00]
    ·simp [hn0,run_zeroValue' i1 i4,newRow,cs]
   have h3:=hr.renew (b:=b) (g:=(s.blk b).gen+1) (zs:=List.replicate k e.dflt) (k:=⟨w.heap.size,0,k,false⟩) (w':=w.alloc (.cells cs eid)) (Nat.lt_succ_self _) (.inr rfl) (by simp) (fun r hr=>heap_alloc_lt w _ hr) (fun _=>by simp) ⟨rfl,rfl,rfl⟩
    (fun H κ'=>⟨fun h=>(by cases h),fun _=>⟨cs,eid,heap_alloc_new w _,by simp [cs],by simp,by simp only;omega,(hrow.rowIs (pre:=[]) (post:=[]) (by simp)).later (Ext.alloc hr.fsz _)⟩⟩)
   refine oper_value (by rw [ho];intro c hc;cases hc) hrun ⟨_,F,RelK.set (s:=s.setB b _) h3 hdst ⟨⟨by simp [AState.setB],rfl⟩,fun _ _=>by simp [AState.setB,KB.slice,Body.len]⟩⟩
  ·cases h
 ·cases h
theorem RowL.take {P:Program} {e:Ty} {F:Nat→Prop} {w:World} {all:List Value} {xs:List e.Den} (h:RowL P e F w all xs) {n:Nat} (hn:n≤xs.length):RowL P e F w (all.take (n*e.size)) (xs.take n):=by
 have hle:n*e.size≤xs.length*e.size:=Nat.mul_le_mul_right _ hn
 refine ⟨by simp only [List.length_take,h.1];rw [Nat.min_eq_left hle,Nat.min_eq_left hn],fun i hi=>?_⟩
 have hi':i<n:=by simp at hi;omega
 have hle2:(i+1)*e.size≤n*e.size:=Nat.mul_le_mul_right _ (by omega)
 rw [Nat.add_mul] at hle2
 have:((all.take (n*e.size)).drop (i*e.size)).take e.size=(all.drop (i*e.size)).take e.size:=by
  rw [List.drop_take,List.take_take,Nat.min_eq_left (by omega)]
 rw [this]
 simpa using h.2 i (by omega)
theorem firstCells_take {P:Program} {w:World} {e:Ty} {q:Option Addr} {n cap:Nat} {xs:List e.Den} {F:Nat→Prop} (hn:n≤xs.length) (h:(q=none∧xs=[]∧cap=0)∨∃ p all,q=some p∧RowL P e F w all xs∧Reads w p all) :
  ∃ all,(Builtin.firstCells e.size n (.slice q xs.length cap)).run P w=.ok all.toArray w∧RowL P e F w all (xs.take n):=by
 rcases h with ⟨rfl,rfl,rfl⟩ | ⟨p,all,rfl,a1,a2⟩
 ·exact ⟨[],by simp [Builtin.firstCells],by simp [RowL]⟩
 ·have hle:n*e.size≤xs.length*e.size:=Nat.mul_le_mul_right _ hn
  refine ⟨all.take (n*e.size),?_,a1.take hn⟩
  simp only [Builtin.firstCells]
  have hl:(all.take (n*e.size)).length=n*e.size:=by simp only [List.length_take,a1.1];exact Nat.min_eq_left hle
  have hr:Reads w p (all.take (n*e.size)):=⟨fun h0=>a2.1 (by simp at h0;omega),fun j hj=>by
   have hj':j<all.length:=by rw [hl] at hj;rw [a1.1];omega
   rw [List.getElem_take]
   exact a2.2 j hj'⟩
  have:=reads_run (P:=P) hr
  rw [hl] at this
  exact this
theorem RowIs.over {P:Program} {e:Ty} {F:Nat→Prop} {w w':World} {cs cs':Array Value} {off lo:Nat} {xs zs:List e.Den} {new:List Value} (h:RowIs P e F w cs off xs) (he:Ext F w w') (hn:RowL P e F w new zs) (hl:lo+zs.length≤xs.length)
  (hcs:off+xs.length*e.size≤cs.size) (hc:cs'.toList=cs.toList.take (off+lo*e.size)++(new++cs.toList.drop (off+lo*e.size+new.length))):RowIs P e F w' cs' off (Go.Fer.over xs lo zs):=by
 have hlen:(Go.Fer.over xs lo zs).length=xs.length:=by simp [Go.Fer.over];omega
 have hle0:(lo+zs.length)*e.size≤xs.length*e.size:=Nat.mul_le_mul_right _ hl
 rw [Nat.add_mul] at hle0
 have hnl:=hn.1
 have hpre:(cs.toList.take (off+lo*e.size)).length=off+lo*e.size:=by simp;omega
 intro i hi
 rw [hlen] at hi
 have hcases:i<lo∨(lo≤i∧i<lo+zs.length)∨lo+zs.length≤i:=by omega
 rcases hcases with h1 | ⟨h1,h2⟩ | h1
 ·obtain ⟨ds,d1,d2⟩:=h i hi
  have hds:=RC_len e d2
  have e1:(Go.Fer.over xs lo zs)[i]'(by rw [hlen];exact hi)=xs[i]:=by
   simp only [Go.Fer.over,List.append_assoc]
   rw [List.getElem_append_left (by simp;omega)]
   simp
  rw [e1]
  refine ⟨ds,fun j hj=>?_,RC_mono e (fun _ h=>h) he d2⟩
  have hle:(i+1)*e.size≤lo*e.size:=Nat.mul_le_mul_right _ (by omega)
  rw [Nat.add_mul] at hle
  rw [←Array.getElem?_toList,hc,List.getElem?_append_left (by omega),List.getElem?_take,if_pos (by omega),Array.getElem?_toList]
  exact d1 j hj
 ·have hri:=hn.rowIs (pre:=cs.toList.take (off+lo*e.size)) (post:=cs.toList.drop (off+lo*e.size+new.length)) hc
  obtain ⟨ds,d1,d2⟩:=hri (i - lo) (by omega)
  have e1:(Go.Fer.over xs lo zs)[i]'(by rw [hlen];exact hi)=zs[i - lo]'(by omega):=by
   simp only [Go.Fer.over,List.append_assoc]
   rw [List.getElem_append_right (by simp;omega)]
   have hl2:(xs.take lo).length=lo:=by simp;omega
   rw [List.getElem_append_left (by rw [hl2];omega)]
   simp only [hl2]
  rw [e1]
  refine ⟨ds,fun j hj=>?_,RC_mono e (fun _ h=>h) he d2⟩
  have:=d1 j hj
  rw [hpre] at this
  rw [←this]
  congr 1
  have:i*e.size=lo*e.size+(i - lo)*e.size:=by rw [←Nat.add_mul];congr 1;omega
  omega
 ·obtain ⟨ds,d1,d2⟩:=h i hi
  have hds:=RC_len e d2
  have e1:(Go.Fer.over xs lo zs)[i]'(by rw [hlen];exact hi)=xs[i]:=by
   simp only [Go.Fer.over,List.append_assoc]
   have hl2:(xs.take lo).length=lo:=by simp;omega
   rw [List.getElem_append_right (by rw [hl2];omega),List.getElem_append_right (by rw [hl2];omega)]
   simp only [hl2,List.getElem_drop]
   congr 1
   omega
  rw [e1]
  refine ⟨ds,fun j hj=>?_,RC_mono e (fun _ h=>h) he d2⟩
  have hge:(lo+zs.length)*e.size≤i*e.size:=Nat.mul_le_mul_right _ h1
  rw [Nat.add_mul] at hge
  rw [←Array.getElem?_toList,hc,List.getElem?_append_right (by omega),List.getElem?_append_right (by omega),List.getElem?_drop,hpre]
  rw [show off+lo*e.size+new.length+(off+i*e.size+j - (off+lo*e.size) - new.length)=off+i*e.size+j from by omega,Array.getElem?_toList]
  exact d1 j hj
theorem RowL.one {P:Program} {e:Ty} {F:Nat→Prop} {w:World} {new:List Value} {ys:List e.Den} (h:RowL P e F w new ys) (hpos:0<e.size):∀ v∈new,v.oneCell'=true:=by
 intro v hv
 obtain ⟨j,hj,rfl⟩:=List.mem_iff_getElem.1 hv
 have hdiv:j / e.size<ys.length:=(Nat.div_lt_iff_lt_mul hpos).2 (by rw [←h.1];exact hj)
 have hrc:=h.2 (j / e.size) hdiv
 have hal:=leafs_ok (P:=P) (H:=fun _=>⟨0,.dead⟩) (κ:=fun _=>⟨0,0,0,true⟩) e hrc
 have hmod:=Nat.mod_lt j hpos
 have hjj:j / e.size*e.size+j % e.size=j:=Nat.div_add_mod' j e.size
 have hlen2:((new.drop (j / e.size*e.size)).take e.size).length=e.size:=RC_len e hrc
 have:=(hal.nth (j % e.size) (by rw [hal.len,hlen2];exact hmod)).2
 rw [List.getD_eq_getElem?_getD,List.getElem?_take,if_pos hmod,List.getElem?_drop,hjj,List.getElem?_eq_getElem hj] at this
 exact this
theorem ok_copy (hT:TabOk C.P T) {args:Array Operand} {tys:Array TypeId} (hdst:∀ i,o.dst=some i→i<C.nt) (ho:o.op=.call { callee:=.builtin .copy,args:=args,argTypes:=tys }) (h:(opV C.ft T Φ (opAV C.ft s.slot) o).run s.blk=some res):OpOk C o s res:=by
 obtain ⟨args⟩:=args
 obtain ⟨tys⟩:=tys
 have hd:∀ c,o.op≠.defer c:=by rw [ho];intro c hc;cases hc
 simp only [opV,ho,callV,copyOpV] at h
 split at h
 ·rename_i x y t u
  split at h
  ·rename_i e e2 ht hu
   have hti:=hT.is ht (by simp)
   obtain ⟨eid,hj,hj2,hj3⟩:=hti.sl
   obtain ⟨inf,z,i1,i2,i3,i4,i5,i6⟩:=infoOk_out hj2.info
   have hpos:0<e.size:=Nat.pos_of_ne_zero hj3
   split at h
   ·rename_i b g lo hi hdst'
    simp only [Rd.run_bindO,Option.bind_eq_some_iff,Rd.run_get,Rd.run_ret] at h
    obtain ⟨⟨ys,l⟩,hys,h⟩:=h
    split at h
    ·rename_i hg
     split at h
     ·rename_i e' xs hb
      split at h
      ·rename_i hee
       subst hee
       simp only [Option.some.injEq] at h
       subst h
       intro a w κ F Q hr hob _
       obtain ⟨q',cap',hyv,hyr⟩:=elems_ok hr hys (use_op hr y rfl hob.2)
       have hx:RA C.P s.blk κ F w (use (opAV C.ft s.slot x)).2 (a.eval x):=use_op hr x rfl hob.1
       have hB:=hr.blks b
       unfold HB at hB
       rw [hb] at hB
       have place:lo≤hi.getD xs.length∧hi.getD xs.length≤xs.length∧(((κ b).isNil=true∧∃ cap,a.eval x=.slice none 0 cap)∨((κ b).isNil=false∧∃ oo cap,a.eval x=.slice (some ⟨(κ b).blk,oo,none⟩) (hi.getD xs.length - lo) cap∧(lo<hi.getD xs.length→oo=(κ b).off+lo*e'.size))):=by
        split at hdst'
        ·rename_i b' g' hxe
         simp only [Option.some.injEq,Prod.mk.injEq] at hdst'
         obtain ⟨rfl,rfl,rfl,rfl⟩:=hdst'
         rw [hxe] at hx
         have hv:=hx.2 hg.symm (by rw [hb];rfl)
         rw [hb] at hv
         simp only [Body.len] at hv
         refine ⟨Nat.zero_le _,Nat.le_refl _,?_⟩
         cases hn:(κ b').isNil with
         | true=>exact .inl ⟨rfl,0,by simpa [KB.slice,hn] using hv⟩
         | false=>exact .inr ⟨rfl,(κ b').off,(κ b').cap,by simpa [KB.slice,hn] using hv,fun _=>by simp⟩
        ·rename_i b' g' lo' hi' hxe
         simp only [Option.some.injEq,Prod.mk.injEq] at hdst'
         obtain ⟨rfl,rfl,rfl,rfl⟩:=hdst'
         rw [hxe] at hx
         obtain ⟨⟨k1,k2⟩,k3⟩:=hx.2 hg.symm (by rw [hb];rfl)
         rw [hb] at k2 k3
         simp only [Body.len,Body.esz] at k2 k3
         refine ⟨k1,k2,?_⟩
         rcases k3 with ⟨hn,hv⟩ | ⟨hn,oo,hv,o1,o2⟩
         ·exact .inl ⟨hn,0,hv⟩
         ·obtain ⟨cs,T',c1,c2,c3,c4,c5⟩:=hB.2 hn
          exact .inr ⟨hn,oo,_,hv,fun hlt=>o2 (by simp only [Option.getD_some] at hlt;omega)⟩
        ·cases hdst'
       obtain ⟨p1,p2,p3⟩:=place
       have hlenI:∀ m:Nat,m≤ys.length→m≤xs.length→InR .i64 (m:Int):=by
        intro m _ hm
        have:=arr_nil hr (b:=b) (by rw [hb];rfl)
        rw [hb] at this
        simp only [Body.len] at this
        exact InR_len (by omega)
       generalize hmn:hi.getD xs.length=hh at *
       have hnm:Nat.min ys.length (hh - lo)=min (hh - lo) ys.length:=Nat.min_comm _ _
       have hzl:(ys.take (hh - lo)).length=min (hh - lo) ys.length:=by simp
       have hover:(over xs lo (ys.take (hh - lo))).length=xs.length:=by simp [over];omega
       have hl2:Later s.blk κ (fun i=>if i=b then (⟨(s.blk b).gen,.arr e' (over xs lo (ys.take (hh - lo)))⟩:ABlk) else s.blk i) κ:=
        later_same rfl (fun h=>by cases h) (fun _=>by rw [hb];exact ⟨rfl,hover,rfl⟩) (fun h=>by cases h) (fun h=>by cases h)
       have exe:∀ (w':World) v,(Builtin.copy_ #[t,u] o.type #[a.eval x,a.eval y]).run C.P w=.ok v w'→(execOp a.eval o).run C.P w=.ok (.value v) w':=by
        intro w' v hv
        refine run_call_builtin ho ?_
        simp [builtin,hv]
       rcases p3 with ⟨hn,cap,hxv⟩ | ⟨hn,oo,cap,hxv,hoo⟩
       ·have hxs:=hB.1 hn
        subst hxs
        have hh0:hh=0:=by simpa using p2
        subst hh0
        have hlo0:lo=0:=by omega
        subst hlo0
        obtain ⟨new,n1,n2⟩:=firstCells_take (P:=C.P) (w:=w) (n:=0) (Nat.zero_le _) hyr
        have hrun:(Builtin.copy_ #[t,u] o.type #[a.eval x,a.eval y]).run C.P w=.ok (.int .i64 ((0:Nat):Int)) w:=by
         simp only [Builtin.copy_,List.getElem?_toArray,List.getElem?_cons_zero,List.getElem?_cons_succ,Sem.run_bind,run_underlying' hj,Result.andThen_ok,hxv,hyv,Builtin.lenOf,Sem.run_pure,run_sizeOf' i1,i2,Nat.min_zero]
         rw [n1]
         rfl
        refine oper_value hd (exe w _ hrun) ⟨κ,F,RelK.set (s:=s.setB b _) ?_ hdst (RV_int.2 ⟨by simp,hlenI _ (by simp) (by simp)⟩)⟩
        have e0:over ([]:List e'.Den) 0 (ys.take (0 - 0))=[]:=by simp [over]
        have es:s.setB b ⟨(s.blk b).gen,.arr e' (over ([]:List e'.Den) 0 (ys.take (0 - 0)))⟩=s:=by
         rw [e0]
         unfold AState.setB
         have:(fun i=>if i=b then (⟨(s.blk b).gen,.arr e' []⟩:ABlk) else s.blk i)=s.blk:=by
          funext i
          by_cases hi:i=b
          ·subst hi
           simp only [if_true]
           rw [←hb]
          ·simp [hi]
         rw [this]
        rw [es]
        exact hr
       ·obtain ⟨cs,T',c1,c2,c3,c4,c5⟩:=hB.2 hn
        have hmin:min (hh - lo) ys.length≤ys.length:=Nat.min_le_right _ _
        obtain ⟨new,n1,n2⟩:=firstCells_take (P:=C.P) (w:=w) hmin hyr
        have htk:ys.take (min (hh - lo) ys.length)=ys.take (hh - lo):=by
         rw [←List.take_take,List.take_length]
        rw [htk] at n2
        have hnl:=n2.1
        rw [hzl] at hnl
        have hone:=n2.one hpos
        have hcapm:xs.length*e'.size≤(κ b).cap*e'.size:=Nat.mul_le_mul_right _ c3
        have hlom:(lo+min (hh - lo) ys.length)*e'.size≤xs.length*e'.size:=Nat.mul_le_mul_right _ (by omega)
        rw [Nat.add_mul] at hlom
        obtain ⟨w',cs',r1,r2,r3,r4,r5,r6⟩:∃ w' cs',(storeCells ⟨(κ b).blk,oo,none⟩ new).run C.P w=.ok () w'∧w'.heap[(κ b).blk]?=some (.cells cs' T' (0,0))∧cs'.toList=cs.toList.take ((κ b).off+lo*e'.size)++(new++cs.toList.drop ((κ b).off+lo*e'.size+new.length))∧
          (∀ r,r≠(κ b).blk→w'.heap[r]?=w.heap[r]?)∧w'.heap.size=w.heap.size∧Calm w w':=by
         by_cases hlt:lo<hh
         ·rw [hoo hlt]
          obtain ⟨w',cs',r1,r2,r3,r4,r5,r6⟩:=storeCells_ok (P:=C.P) new ((κ b).off+lo*e'.size) 0 w cs c1 (by omega) hone
          exact ⟨w',cs',r1,r2,by simpa using r3,r4,r5,r6⟩
         ·have h0:min (hh - lo) ys.length=0:=by omega
          rw [h0,Nat.zero_mul] at hnl
          have:new=[]:=List.eq_nil_of_length_eq_zero hnl
          subst this
          exact ⟨w,cs,by simp [storeCells],c1,by simp,fun _ _=>rfl,rfl,Calm.refl w⟩
        have hrun:(Builtin.copy_ #[t,u] o.type #[a.eval x,a.eval y]).run C.P w=.ok (.int .i64 ((min (hh - lo) ys.length:Nat):Int)) w':=by
         simp only [Builtin.copy_,List.getElem?_toArray,List.getElem?_cons_zero,List.getElem?_cons_succ,Sem.run_bind,run_underlying' hj,Result.andThen_ok,hxv,hyv,Builtin.lenOf,Sem.run_pure,run_sizeOf' i1,i2]
         rw [hnm,n1]
         simp only [Result.andThen_ok,r1]
         rfl
        refine oper_value hd (exe w' _ hrun) ⟨κ,F,RelK.set (s:=s.setB b _) ?_ hdst (RV_int.2 ⟨rfl,hlenI _ (by omega) (by omega)⟩)⟩
        refine hr.write (b:=b) (by rw [hb];simp [Body.owned,hn]) (by simp [Body.owned,hn]) hl2 (fun h=>by cases h) (fun h=>by cases h) r4 r5 r6 fun H hH hlt he=>?_
        refine ⟨fun h=>(by rw [hn] at h;cases h),fun _=>⟨cs',T',r2,?_,by rw [hover];exact c3,c4,?_⟩⟩
        ·have:cs'.size=cs.size:=by
          rw [←Array.length_toList,r3]
          simp only [List.length_append,List.length_take,List.length_drop,Array.length_toList]
          omega
         omega
        ·exact c5.over he n2 (by rw [hzl];omega) (by omega) r3
      ·cases h
     ·cases h
    ·cases h
   ·cases h
  ·cases h
 ·cases h
theorem ok_never (ho:(opV C.ft T Φ (opAV C.ft s.slot) o).run s.blk=some ⟨True,False,.undef,[]⟩) (h:(opV C.ft T Φ (opAV C.ft s.slot) o).run s.blk=some res):OpOk C o s res:=by
 rw [ho] at h
 cases h
 intro a w κ F Q _ _ hc
 exact hc.elim
end
end Go.Fer
namespace Go.Fer
open Go.RowKit
section
variable {C:Ctx} {T:Nat→Ty} {Φ:Nat→Option FC} {o:Oper} {s:AState} {res:OpRes}
theorem bounds_run3 {P:Program} {w:World} {len cap:Nat} {lo:Option Value} {l:Option Int} {k k':IntKind} {h m:Int} (hl:(lo=none∧l=none)∨∃ k m,lo=some (.int k m)∧l=some m)
  (h1:0≤loB l) (h2:loB l≤h) (h3:h≤m) (h4:m≤(cap:Int)):(Instr.sliceBounds true len cap lo (some (.int k h)) (some (.int k' m))).run P w=.ok ((loB l).toNat,h.toNat,m.toNat) w:=by
 rcases hl with ⟨rfl,rfl⟩ | ⟨k,n,rfl,rfl⟩<;>simp only [loB] at h1 h2 ⊢
 ·have e1:0≤m∧m≤(cap:Int):=by omega
  have e2:0≤h∧h≤m:=by omega
  have e3:max m 0=m:=by omega
  simp [Instr.sliceBounds,Instr.sliceBound,asIntOf,e1,e2,e3]
 ·have e1:0≤m∧m≤(cap:Int):=by omega
  have e2:0≤h∧h≤m:=by omega
  have e3:max m 0=m:=by omega
  have e4:0≤n∧n≤h:=by omega
  have e5:max h 0=h:=by omega
  simp [Instr.sliceBounds,Instr.sliceBound,asIntOf,e1,e2,e3,e4,e5]
theorem ok_slice3 (hT:TabOk C.P T) {ty:TypeId} {x:Operand} {lo hi:Option Operand} {mx:Operand} (hdst:∀ i,o.dst=some i→i<C.nt) (ho:o.op=.slice ty x lo hi (some mx)) (h:(opV C.ft T Φ (opAV C.ft s.slot) o).run s.blk=some res):OpOk C o s res:=by
 simp only [opV,ho,Option.isSome_some,if_true,slice3OpV] at h
 split at h
 ·rename_i ol l oh hh om m hlo hhi hmx
  have hd:∀ c,o.op≠.defer c:=by rw [ho];intro c hc;cases hc
  split at h
  ·rename_i e0 ht
   have hti:=hT.is ht (by simp)
   obtain ⟨j,hj,hj2,hj3⟩:=hti.sl
   simp only [Rd.run_bindO,Option.bind_eq_some_iff] at h
   obtain ⟨⟨c,v⟩,hsv,h⟩:=h
   simp only [okRes,Rd.run_ret,Option.some.injEq] at h
   subst h
   have runs:∀ (a:Act) (w:World) κ F,RelK C s a w κ F→ol→oh→om→∀ (q:Option Addr) (n cap:Nat),a.eval x=.slice q n cap→0≤loB l→loB l≤hh→hh≤m→m≤(cap:Int)→
     (execOp a.eval o).run C.P w=.ok (.value (.slice (if m.toNat=(loB l).toNat then q else q.map (·.add ((loB l).toNat*e0.size))) (hh.toNat - (loB l).toNat) (m.toNat - (loB l).toNat))) w:=by
    intro a w κ F hr hol hoh hom q n cap hv c1 c2 c3 c4
    have b1:(lo.map a.eval=none∧l=none)∨∃ k m,lo.map a.eval=some (.int k m)∧l=some m:=by
     rcases boundV_ok hr hlo hol with ⟨rfl,rfl⟩ | ⟨y,k,m,rfl,rfl,e⟩
     ·exact .inl ⟨rfl,rfl⟩
     ·exact .inr ⟨k,m,by simp [e],rfl⟩
    obtain ⟨y2,k2,m2,rfl,e2,e3⟩:∃ y k n,hi=some y∧hh=n∧a.eval y=.int k n:=by
     rcases boundV_ok hr hhi hoh with ⟨_,h⟩ | ⟨y,k,m,rfl,h,e⟩
     ·cases h
     ·exact ⟨y,k,m,rfl,Option.some.inj h,e⟩
    obtain ⟨k3,e4⟩:∃ k,a.eval mx=.int k m:=by
     rcases boundV_ok hr hmx hom with ⟨h,_⟩ | ⟨y,k,m,h1,h2,e⟩
     ·cases h
     ·cases h1;cases h2;exact ⟨k,e⟩
    subst e2
    have:=bounds_run3 (P:=C.P) (w:=w) (len:=n) (k:=k2) (k':=k3) b1 c1 c2 c3 c4
    simp [execOp,ho,hv,Instr.sliceAt,Instr.slice,run_underlying' hj,e3,e4,this,hj2.size]
   unfold slice3V at hsv
   split at hsv
   ·rename_i e xs hxe
    simp only [Rd.run_ret] at hsv
    split at hsv
    ·rename_i he
     subst he
     simp only [Option.some.injEq,Prod.mk.injEq] at hsv
     obtain ⟨rfl,rfl⟩:=hsv
     refine OpOk.pure hd hdst fun a w κ F hr hob hc=>?_
     have hx:RA C.P s.blk κ F w (use (opAV C.ft s.slot x)).2 (a.eval x):=use_op hr x rfl hob.1
     rw [hxe] at hx
     obtain ⟨_,a',cap,e1,m1,m2,m3,m4⟩:=(RV_leaf rfl).1 hx
     have e1:=(List.cons.inj e1).1
     simp only [hiB] at hc
     obtain ⟨c1,c2,c3,c4⟩:=hc
     subst c3
     have hlen:((xs.take hh.toNat).drop (loB l).toNat).length=hh.toNat - (loB l).toNat:=by
      simp
      omega
     have hcap0:(xs.length:Int)≤cap:=by omega
     refine ⟨_,runs a w κ F hr hob.2.1 hob.2.2.1 hob.2.2.2 a' xs.length cap e1 c1 c2 (Int.le_refl _) (by omega),(RV_leaf rfl).2 ⟨rfl,?_⟩,_,by rw [hlen]⟩
     refine ⟨_,_,by rw [hlen],by rw [hlen];omega,by omega,?_,fun p hp hc0=>?_⟩
     ·intro hn
      split at hn
      ·omega
      ·cases a' with
       | none=>have:=m3 rfl;omega
       | some q=>cases hn
     ·cases a' with
      | none=>split at hp<;>cases hp
      | some q=>
       obtain ⟨n1,n2,n3⟩:=m4 q rfl (by omega)
       have hq:p=⟨q.block,q.off+(loB l).toNat*e.size,none⟩:=by
        split at hp
        ·rename_i hcap
         omega
        ·simp only [Option.map_some,Option.some.injEq] at hp
         rw [add_addr' n2] at hp
         exact hp.symm
       subst hq
       refine ⟨n1,rfl,fun i hi=>?_⟩
       rw [hlen] at hi
       obtain ⟨ds,d1,d2⟩:=n3 ((loB l).toNat+i) (by omega)
       refine ⟨ds,⟨d1.1,rfl,fun k hk=>?_⟩,?_⟩
       ·have:=d1.2.2 k hk
        rw [Nat.add_mul] at this
        rw [show q.off+(loB l).toNat*e.size+i*e.size=q.off+((loB l).toNat*e.size+i*e.size) from by omega]
        exact this
       ·have e2:((xs.take hh.toNat).drop (loB l).toNat)[i]'(by rw [hlen];exact hi)=xs[(loB l).toNat+i]'(by omega):=by simp
        rw [e2];exact d2
    ·cases hsv
   ·rename_i hxe
    simp only [Rd.run_ret,Option.some.injEq,Prod.mk.injEq] at hsv
    obtain ⟨rfl,rfl⟩:=hsv
    refine OpOk.pure hd hdst fun a w κ F hr hob hc=>?_
    have hx:RA C.P s.blk κ F w (use (opAV C.ft s.slot x)).2 (a.eval x):=use_op hr x rfl hob.1
    rw [hxe] at hx
    simp only [RA] at hx
    simp only [hiB] at hc
    obtain ⟨c1,c2,c3⟩:=hc
    have hrun:=runs a w κ F hr hob.2.1 hob.2.2.1 hob.2.2.2 none 0 0 hx (by omega) (by omega) (by omega) (by omega)
    have h0:hh.toNat=0:=by omega
    have h1:m.toNat=0:=by omega
    have h2:(loB l).toNat=0:=by omega
    rw [h0,h1,h2] at hrun
    simp only [if_true,Nat.sub_zero] at hrun
    exact ⟨_,hrun,(RV_leaf rfl).2 ⟨rfl,none,0,rfl,Nat.le_refl _,by decide,fun _=>rfl,fun p hp=>by cases hp⟩,none,rfl⟩
   ·rename_i b g hxe
    simp only [Rd.run_get,Rd.run_ret] at hsv
    split at hsv
    ·rename_i hz
     simp only [Bool.and_eq_true,decide_eq_true_eq] at hz
     obtain ⟨hg,harr⟩:=hz
     simp only [Option.some.injEq,Prod.mk.injEq] at hsv
     obtain ⟨rfl,rfl⟩:=hsv
     refine OpOk.pure hd hdst fun a w κ F hr hob hc=>?_
     have hx:RA C.P s.blk κ F w (use (opAV C.ft s.slot x)).2 (a.eval x):=use_op hr x rfl hob.1
     rw [hxe] at hx
     have hv:=hx.2 hg.symm harr
     obtain ⟨n1,n2⟩:=arr_nil hr harr
     simp only [hiB] at hc
     obtain ⟨c1,c2,c3,c4⟩:=hc
     cases hn:(κ b).isNil with
     | true=>
      have h0:=n1 hn
      simp only [KB.slice,hn,if_true] at hv
      exact ⟨_,runs a w κ F hr hob.2.1 hob.2.2.1 hob.2.2.2 none 0 0 hv c1 c2 c3 (by omega),trivial⟩
     | false=>
      have hcap:=arr_cap hr harr hn
      simp only [KB.slice,hn,Bool.false_eq_true,if_false] at hv
      exact ⟨_,runs a w κ F hr hob.2.1 hob.2.2.1 hob.2.2.2 _ _ _ hv c1 c2 c3 (by omega),trivial⟩
    ·cases hsv
   ·cases hsv
  ·cases h
 ·cases h
theorem setB_same {b:Nat} {e:Ty} (hb:(s.blk b).body=.arr e []):s.setB b ⟨(s.blk b).gen,.arr e []⟩=s:=by
 unfold AState.setB
 have:(fun i=>if i=b then (⟨(s.blk b).gen,.arr e []⟩:ABlk) else s.blk i)=s.blk:=by
  funext i
  by_cases hi:i=b
  ·subst hi
   simp only [if_true]
   rw [←hb]
  ·simp [hi]
 rw [this]
theorem ok_appIn (hT:TabOk C.P T) {args:Array Operand} {tys:Array TypeId} (hdst:∀ i,o.dst=some i→i<C.nt) (ho:o.op=.call { callee:=.builtin .append,args:=args,argTypes:=tys }) {b g lo hi:Nat} (hs:appSame (opAV C.ft s.slot) args.toList=some (b,g,lo,hi))
  (h:(appInV T (opAV C.ft s.slot) args.toList tys.toList b g lo hi).run s.blk=some res):OpOk C o s res:=by
 obtain ⟨args⟩:=args
 obtain ⟨tys⟩:=tys
 have hd:∀ c,o.op≠.defer c:=by rw [ho];intro c hc;cases hc
 simp only [appInV] at h
 split at h
 ·rename_i x y t u
  have hxe:(use (opAV C.ft s.slot x)).2=.sub b g lo hi:=by
   simp only [appSame] at hs
   split at hs
   ·rename_i b1 g1 lo1 hi1 b2 g2 _ _ h1 h2
    split at hs
    ·simp only [Option.some.injEq,Prod.mk.injEq] at hs
     obtain ⟨rfl,rfl,rfl,rfl⟩:=hs
     exact h1
    ·cases hs
   ·cases hs
  split at h
  ·rename_i e e2 ht hu
   have hti:=hT.is ht (by simp)
   have htu:=hT.is hu (by simp)
   obtain ⟨eid,hj,hj2,hj3⟩:=hti.sl
   obtain ⟨eid',hj',_⟩:=htu.sl
   obtain ⟨inf,z,i1,i2,i3,i4,i5,i6⟩:=infoOk_out hj2.info
   have hpos:0<e.size:=Nat.pos_of_ne_zero hj3
   simp only [Rd.run_bindO,Option.bind_eq_some_iff,Rd.run_get,Rd.run_ret] at h
   obtain ⟨⟨ys,l⟩,hys,h⟩:=h
   split at h
   ·rename_i hg
    split at h
    ·rename_i e' xs hb
     split at h
     ·rename_i hee
      subst hee
      simp only [Option.some.injEq] at h
      subst h
      intro a w κ F Q hr hob hc
      change hi+ys.length≤xs.length at hc
      obtain ⟨q',cap',hyv,hyr⟩:=elems_ok hr hys (use_op hr y rfl hob.2)
      have hx:RA C.P s.blk κ F w (use (opAV C.ft s.slot x)).2 (a.eval x):=use_op hr x rfl hob.1
      rw [hxe] at hx
      have hB:=hr.blks b
      unfold HB at hB
      rw [hb] at hB
      obtain ⟨⟨k1,k2⟩,k3⟩:=hx.2 hg.symm (by rw [hb];rfl)
      rw [hb] at k2 k3
      simp only [Body.len,Body.esz] at k2 k3
      have exe:∀ (w':World) v,(Builtin.append_ #[t,u] o.type #[a.eval x,a.eval y]).run C.P w=.ok v w'→(execOp a.eval o).run C.P w=.ok (.value v) w':=by
       intro w' v hv
       refine run_call_builtin ho ?_
       simp [builtin,hv]
      have hover:(over xs hi ys).length=xs.length:=by simp [over];omega
      have hl2:Later s.blk κ (fun i=>if i=b then (⟨(s.blk b).gen,.arr e' (over xs hi ys)⟩:ABlk) else s.blk i) κ:=
       later_same rfl (fun h=>by cases h) (fun _=>by rw [hb];exact ⟨rfl,hover,rfl⟩) (fun h=>by cases h) (fun h=>by cases h)
      rcases k3 with ⟨hn,hv⟩ | ⟨hn,oo,hv,o1,o2⟩
      ·have hxs:=hB.1 hn
       subst hxs
       have hi0:hi=0:=by simpa using k2
       subst hi0
       have hlo0:lo=0:=by omega
       subst hlo0
       have hy0:ys=[]:=by simpa using hc
       subst hy0
       obtain ⟨new,n1,n2⟩:=firstCells_run (P:=C.P) (w:=w) (cap:=cap') rfl hyr
       have hrun:(Builtin.append_ #[t,u] o.type #[a.eval x,a.eval y]).run C.P w=.ok (.slice none 0 0) w:=by
        rw [hv,hyv]
        simp only [List.length_nil] at n1 ⊢
        simp [Builtin.append_,run_underlying' hj,run_underlying' hj',run_sizeOf' i1,Builtin.lenOf]
        rw [i2,n1]
        simp
       have e0:over ([]:List e'.Den) 0 []=[]:=by simp [over]
       refine oper_value hd (exe w _ hrun) ⟨κ,F,RelK.set (s:=s.setB b _) ?_ hdst ⟨⟨by simp [AState.setB,hg],rfl⟩,fun _ _=>⟨by simp [AState.setB,Body.len],.inl ⟨hn,rfl⟩⟩⟩⟩
       rw [e0,setB_same hb]
       exact hr
      ·obtain ⟨cs,T',c1,c2,c3,c4,c5⟩:=hB.2 hn
       obtain ⟨new,n1,n2⟩:=firstCells_run (P:=C.P) (w:=w) (cap:=cap') rfl hyr
       have hnl:=n2.1
       have hone:=n2.one hpos
       have hcapm:xs.length*e'.size≤(κ b).cap*e'.size:=Nat.mul_le_mul_right _ c3
       have hlom:(hi+ys.length)*e'.size≤xs.length*e'.size:=Nat.mul_le_mul_right _ hc
       rw [Nat.add_mul] at hlom
       obtain ⟨w',cs',r1,r2,r3,r4,r5,r6⟩:∃ w' cs',(storeCells ⟨(κ b).blk,oo+(hi - lo)*e'.size,none⟩ new).run C.P w=.ok () w'∧w'.heap[(κ b).blk]?=some (.cells cs' T' (0,0))∧cs'.toList=cs.toList.take ((κ b).off+hi*e'.size)++(new++cs.toList.drop ((κ b).off+hi*e'.size+new.length))∧
         (∀ r,r≠(κ b).blk→w'.heap[r]?=w.heap[r]?)∧w'.heap.size=w.heap.size∧Calm w w':=by
        by_cases hlt:lo<(κ b).cap
        ·have eo:oo+(hi - lo)*e'.size=(κ b).off+hi*e'.size:=by
          rw [o2 hlt,Nat.add_assoc,←Nat.add_mul]
          congr 2
          omega
         rw [eo]
         obtain ⟨w',cs',r1,r2,r3,r4,r5,r6⟩:=storeCells_ok (P:=C.P) new ((κ b).off+hi*e'.size) 0 w cs c1 (by omega) hone
         exact ⟨w',cs',r1,r2,by simpa using r3,r4,r5,r6⟩
        ·have h0:ys.length=0:=by omega
         rw [h0,Nat.zero_mul] at hnl
         have:new=[]:=List.eq_nil_of_length_eq_zero hnl
         subst this
         exact ⟨w,cs,by simp [storeCells],c1,by simp,fun _ _=>rfl,rfl,Calm.refl w⟩
       have hroom:hi - lo+ys.length≤(κ b).cap - lo:=by omega
       have hrun:(Builtin.append_ #[t,u] o.type #[a.eval x,a.eval y]).run C.P w=.ok (.slice (some ⟨(κ b).blk,oo,none⟩) (hi - lo+ys.length) ((κ b).cap - lo)) w':=by
        rw [hv,hyv]
        simp only [Builtin.append_,List.getElem?_toArray,List.getElem?_cons_zero,List.getElem?_cons_succ,Sem.run_bind,run_underlying' hj,run_underlying' hj',Result.andThen_ok,run_sizeOf' i1,i2,Sem.run_pure,Builtin.lenOf,Bool.false_eq_true,if_false,
         if_pos hroom,Bool.not_false,if_true,n1,add_addr]
        simp only [r1,Result.andThen_ok]
       refine oper_value hd (exe w' _ hrun) ⟨κ,F,RelK.set (s:=s.setB b _) ?_ hdst ⟨⟨by simp [AState.setB,hg],rfl⟩,fun _ _=>⟨by simp only [AState.setB,if_true,Body.len,hover];omega,.inr ⟨hn,oo,?_,?_,?_⟩⟩⟩⟩
       ·refine hr.write (b:=b) (by rw [hb];simp [Body.owned,hn]) (by simp [Body.owned,hn]) hl2 (fun h=>by cases h) (fun h=>by cases h) r4 r5 r6 fun H hH hlt he=>?_
        refine ⟨fun h=>(by rw [hn] at h;cases h),fun _=>⟨cs',T',r2,?_,by rw [hover];exact c3,c4,?_⟩⟩
        ·have:cs'.size=cs.size:=by
          rw [←Array.length_toList,r3]
          simp only [List.length_append,List.length_take,List.length_drop,Array.length_toList]
          omega
         omega
        ·exact c5.over he n2 hc (by omega) r3
       ·rw [show hi+ys.length - lo=hi - lo+ys.length from by omega]
       ·simp only [AState.setB,if_true,Body.esz];exact o1
       ·simp only [AState.setB,if_true,Body.esz];exact o2
     ·cases h
    ·cases h
   ·cases h
  ·cases h
 ·cases h
theorem ok_clear (hT:TabOk C.P T) {args:Array Operand} {tys:Array TypeId} (hdst:∀ i,o.dst=some i→i<C.nt) (ho:o.op=.call { callee:=.builtin .clear,args:=args,argTypes:=tys })
  (h:(clearOpV T (opAV C.ft s.slot) args.toList tys.toList).run s.blk=some res):OpOk C o s res:=by
 obtain ⟨args⟩:=args
 obtain ⟨tys⟩:=tys
 have hd:∀ c,o.op≠.defer c:=by rw [ho];intro c hc;cases hc
 simp only [clearOpV] at h
 split at h
 ·rename_i x t
  split at h
  ·rename_i e ht
   have hti:=hT.is ht (by simp)
   obtain ⟨eid,hj,hj2,hj3⟩:=hti.sl
   obtain ⟨inf,z,i1,i2,i3,i4,i5,i6⟩:=infoOk_out hj2.info
   have hpos:0<e.size:=Nat.pos_of_ne_zero hj3
   split at h
   ·rename_i b g lo hi hxe
    simp only [Rd.run_get,Rd.run_ret] at h
    split at h
    ·rename_i hg
     split at h
     ·rename_i e' xs hb
      split at h
      ·rename_i hee
       subst hee
       simp only [Option.some.injEq] at h
       subst h
       intro a w κ F Q hr hob _
       have hx:RA C.P s.blk κ F w (use (opAV C.ft s.slot x)).2 (a.eval x):=use_op hr x rfl hob
       rw [hxe] at hx
       have hB:=hr.blks b
       unfold HB at hB
       rw [hb] at hB
       obtain ⟨⟨k1,k2⟩,k3⟩:=hx.2 hg.symm (by rw [hb];rfl)
       rw [hb] at k2 k3
       simp only [Body.len,Body.esz] at k2 k3
       have exe:∀ (w':World) v,(Builtin.clear_ #[t] o.type #[a.eval x]).run C.P w=.ok v w'→(execOp a.eval o).run C.P w=.ok (.value v) w':=by
        intro w' v hv
        refine run_call_builtin ho ?_
        simp [builtin,hv]
       have hrl:(List.replicate (hi - lo) e'.dflt).length=hi - lo:=by simp
       have hover:(over xs lo (List.replicate (hi - lo) e'.dflt)).length=xs.length:=by simp [over];omega
       have hl2:Later s.blk κ (fun i=>if i=b then (⟨(s.blk b).gen,.arr e' (over xs lo (List.replicate (hi - lo) e'.dflt))⟩:ABlk) else s.blk i) κ:=
        later_same rfl (fun h=>by cases h) (fun _=>by rw [hb];exact ⟨rfl,hover,rfl⟩) (fun h=>by cases h) (fun h=>by cases h)
       have nothing:hi - lo=0→over xs lo (List.replicate (hi - lo) e'.dflt)=xs:=fun h0=>by rw [h0];simp [over]
       have same:hi - lo=0→s.setB b ⟨(s.blk b).gen,.arr e' (over xs lo (List.replicate (hi - lo) e'.dflt))⟩=s:=fun h0=>by
        rw [nothing h0]
        unfold AState.setB
        have:(fun i=>if i=b then (⟨(s.blk b).gen,.arr e' xs⟩:ABlk) else s.blk i)=s.blk:=by
         funext i
         by_cases hi:i=b
         ·subst hi
          simp only [if_true]
          rw [←hb]
         ·simp [hi]
        rw [this]
       rcases k3 with ⟨hn,hv⟩ | ⟨hn,oo,hv,o1,o2⟩
       ·have hxs:=hB.1 hn
        subst hxs
        have hi0:hi - lo=0:=by simp at k2;omega
        have hrun:(Builtin.clear_ #[t] o.type #[a.eval x]).run C.P w=.ok (.tuple #[]) w:=by
         rw [hv]
         simp [Builtin.clear_,run_underlying' hj]
        refine oper_value hd (exe w _ hrun) ⟨κ,F,RelK.set (s:=s.setB b _) ?_ hdst trivial⟩
        rw [same hi0]
        exact hr
       ·obtain ⟨cs,T',c1,c2,c3,c4,c5⟩:=hB.2 hn
        by_cases h0:hi - lo=0
        ·have hrun:(Builtin.clear_ #[t] o.type #[a.eval x]).run C.P w=.ok (.tuple #[]) w:=by
          rw [hv,h0]
          simp [Builtin.clear_,run_underlying' hj]
         refine oper_value hd (exe w _ hrun) ⟨κ,F,RelK.set (s:=s.setB b _) ?_ hdst trivial⟩
         rw [same h0]
         exact hr
        ·obtain ⟨n,hn1⟩:∃ n,hi - lo=n+1:=⟨hi - lo - 1,by omega⟩
         have hrow:RowL C.P e' F w ((Array.range ((hi - lo)*e'.size)).map (fun i=>z.cells[i % z.cells.size]!)).toList (List.replicate (hi - lo) e'.dflt):=zeros_row i5 _
         have hzs:z.cells.size=e'.size:=by
          obtain ⟨c,ec,z1,z2⟩:=zeroRest_ok (P:=C.P) (H:=fun _=>⟨0,.dead⟩) (κ:=fun _=>⟨0,0,0,true⟩) (F:=F) (w:=w) e' i5
          rw [List.append_nil] at ec
          rw [←Array.length_toList,ec];exact RC_len e' z1
         have hnl:=hrow.1
         rw [hrl] at hnl
         have hone:=hrow.one hpos
         revert hrow hnl hone
         generalize hnew:((Array.range ((hi - lo)*e'.size)).map (fun i=>z.cells[i % z.cells.size]!)).toList=new
         intro hrow hnl hone
         have hcapm:xs.length*e'.size≤(κ b).cap*e'.size:=Nat.mul_le_mul_right _ c3
         have hlom:(lo+(hi - lo))*e'.size≤xs.length*e'.size:=Nat.mul_le_mul_right _ (by omega)
         rw [Nat.add_mul] at hlom
         have eo:oo=(κ b).off+lo*e'.size:=o2 (by omega)
         obtain ⟨w',cs',r1,r2,r3,r4,r5,r6⟩:=storeCells_ok (P:=C.P) new ((κ b).off+lo*e'.size) 0 w cs c1 (by omega) hone
         have hrun:(Builtin.clear_ #[t] o.type #[a.eval x]).run C.P w=.ok (.tuple #[]) w':=by
          rw [hv,eo]
          have hz:(Builtin.zeroCells z.cells (hi - lo)).toList=new:=by rw [←hnew,←hzs];rfl
          simp only [Builtin.clear_,List.getElem?_toArray,List.getElem?_cons_zero,Sem.run_bind,run_underlying' hj,Result.andThen_ok,run_zeroValue' i1 i4,hn1]
          rw [←hn1,hz]
          simp only [r1,Result.andThen_ok,Sem.run_pure]
         refine oper_value hd (exe w' _ hrun) ⟨κ,F,RelK.set (s:=s.setB b _) ?_ hdst trivial⟩
         refine hr.write (b:=b) (by rw [hb];simp [Body.owned,hn]) (by simp [Body.owned,hn]) hl2 (fun h=>by cases h) (fun h=>by cases h) r4 r5 r6 fun H hH hlt he=>?_
         refine ⟨fun h=>(by rw [hn] at h;cases h),fun _=>⟨cs',T',r2,?_,by rw [hover];exact c3,c4,?_⟩⟩
         ·have:cs'.size=cs.size:=by
           rw [←Array.length_toList,r3]
           simp only [List.length_append,List.length_take,List.length_drop,Array.length_toList]
           omega
          omega
         ·exact c5.over he hrow (by rw [hrl];omega) (by omega) (by simpa using r3)
      ·cases h
     ·cases h
    ·cases h
   ·cases h
  ·cases h
 ·cases h
end
end Go.Fer
namespace Go.Fer
open Go.RowKit
section
variable {C:Ctx} {T:Nat→Ty} {Φ:Nat→Option FC} {o:Oper} {s:AState} {res:OpRes}
theorem fillRow_run {place:Nat→Option (Nat×Nat)} {size:Nat} (hp:∀ i,place i=some (i*size,size)):∀ (qs:List (Nat×Value)) (cs:Array Value),(∀ q∈qs,q.2.cells.size=size∧q.1*size+size≤cs.size)→(qs.map (·.1)).Nodup→
  ∃ cs',Instr.fill place cs qs=some cs'∧cs'.size=cs.size∧∀ i,i*size+size≤cs.size→(cs'.toList.drop (i*size)).take size=(match qs.find? (fun p=>p.1 == i) with | some q=>q.2.cells.toList | none=>(cs.toList.drop (i*size)).take size)
 | [],cs,_,_=>⟨cs,rfl,rfl,fun i _=>rfl⟩
 | (k,v)::qs,cs,h,hn=>by
  obtain ⟨h1,h2⟩:=h (k,v) (by simp)
  simp only at h1 h2
  have hfold:=fold_set v.cells.toList 0 (k*size) cs (by simp;omega)
  have e:(v.cells.zipIdx.foldl (fun (cs:Array Value) (p:Value×Nat)=>cs.setIfInBounds (k*size+p.2) p.1) cs)=((v.cells.toList.zipIdx 0).foldl (fun (cs:Array Value) (p:Value×Nat)=>cs.setIfInBounds (k*size+p.2) p.1) cs):=by
   rw [←Array.foldl_toList]
   simp
  generalize hcs1:(v.cells.zipIdx.foldl (fun (cs:Array Value) (p:Value×Nat)=>cs.setIfInBounds (k*size+p.2) p.1) cs)=cs1 at *
  have hl1:cs1.toList=cs.toList.take (k*size)++(v.cells.toList++cs.toList.drop (k*size+size)):=by
   rw [e,hfold];simp [h1]
  have hsz:cs1.size=cs.size:=by
   rw [←Array.length_toList,hl1]
   simp
   omega
  have hn':(qs.map (·.1)).Nodup∧k ∉ qs.map (·.1):=by
   simp only [List.map_cons,List.nodup_cons] at hn
   exact ⟨hn.2,hn.1⟩
  obtain ⟨cs',k1,k2,k3⟩:=fillRow_run hp qs cs1 (fun q hq=>by rw [hsz];exact h q (by simp [hq])) hn'.1
  refine ⟨cs',?_,by rw [k2,hsz],fun i hi=>?_⟩
  ·simp only [Instr.fill,hp]
   rw [if_neg (by simp;omega)]
   rw [hcs1]
   exact k1
  ·rw [k3 i (by rw [hsz];exact hi)]
   by_cases hik:k=i
   ·subst hik
    have:qs.find? (fun p=>p.1 == k)=none:=by
     rw [List.find?_eq_none]
     intro q hq hqk
     exact hn'.2 (List.mem_map.2 ⟨q,hq,by simpa using hqk⟩)
    simp only [this,List.find?_cons,beq_self_eq_true]
    rw [hl1,List.drop_append,List.drop_of_length_le (by simp;omega)]
    have:(List.take (k*size) cs.toList).length=k*size:=by simp;omega
    rw [this]
    rw [Nat.sub_self,List.drop_zero,List.nil_append,List.take_append_of_le_length (by simp [h1]),List.take_of_length_le (by simp [h1])]
   ·have:((k,v)::qs).find? (fun p=>p.1 == i)=qs.find? (fun p=>p.1 == i):=by simp [hik]
    rw [this]
    have hrow:(cs1.toList.drop (i*size)).take size=(cs.toList.drop (i*size)).take size:=by
     apply List.ext_getElem?
     intro j
     simp only [List.getElem?_take,List.getElem?_drop]
     split
     ·rename_i hj
      rw [hl1]
      have htk:(List.take (k*size) cs.toList).length=k*size:=by simp;omega
      have hvl:v.cells.toList.length=size:=by simpa using h1
      rcases Nat.lt_or_ge i k with h3 | h3
      ·have:(i+1)*size≤k*size:=Nat.mul_le_mul_right _ (by omega)
       rw [Nat.add_mul] at this
       rw [List.getElem?_append_left (by omega),List.getElem?_take,if_pos (by omega)]
      ·have:(k+1)*size≤i*size:=Nat.mul_le_mul_right _ (by omega)
       rw [Nat.add_mul] at this
       rw [List.getElem?_append_right (by omega),htk,List.getElem?_append_right (by omega),List.getElem?_drop]
       congr 1
       omega
     ·rfl
    rw [hrow]
theorem ok_buildSlice (hT:TabOk C.P T) {ty n:Nat} {ps:Array (Nat×Operand)} (hdst:∀ i,o.dst=some i→i<C.nt) (ho:o.op=.buildSlice ty n ps) (h:(opV C.ft T Φ (opAV C.ft s.slot) o).run s.blk=some res):OpOk C o s res:=by
 obtain ⟨ps⟩:=ps
 have hd:∀ c,o.op≠.defer c:=by rw [ho];intro c hc;cases hc
 simp only [opV,ho] at h
 split at h
 ·rename_i e ht
  have hti:=hT.is ht (by simp)
  obtain ⟨eid,hj,hj2,hj3⟩:=hti.sl
  obtain ⟨inf,z,i1,i2,i3,i4,i5,i6⟩:=infoOk_out hj2.info
  simp only [Rd.run_bindO,Option.bind_eq_some_iff,Rd.run_bind] at h
  obtain ⟨⟨xs,fl⟩,hxs,h⟩:=h
  obtain ⟨b,hdb,hk⟩:=newB_some h
  split at hk
  ·rename_i hcond
   obtain ⟨hsmall,hcond2⟩:=hcond
   simp only [Bool.and_eq_true,Bool.not_eq_true',decide_eq_true_eq] at hcond2
   obtain ⟨⟨hfl,hnd⟩,hrange⟩:=hcond2
   have hnb:b ∉ fl:=by simpa using hfl
   simp only [Option.some.injEq] at hk
   subst hk
   intro a w κ F Q hr hob _
   obtain ⟨F',f1,hr',f2⟩:=RelK.frzL (elemsD_closed n 0 hxs) hr
   obtain ⟨zc,ze,z1,z2⟩:=zeroRest_ok (P:=C.P) (H:=s.blk) (κ:=κ) (F:=F') (w:=w) e i5
   rw [List.append_nil] at ze
   have hparts:=parts_ok hr ps hob
   have hel:=elemsD_ok hr.blks f1 z1 (ps:=useL (ps.map fun p=>(p.1,opAV C.ft s.slot p.2))) (qs:=ps.map fun p=>(p.1,a.eval p.2)) (by simp [useL]) hparts n 0 hxs f2
   have hzs:=(nthAV_zeros_len e (P:=C.P) i5).2
   have hrange':∀ p∈ps,p.1<n:=by
    intro p hp
    have:=List.all_eq_true.1 hrange (p.1,(use (opAV C.ft s.slot p.2)).2) (by simp only [useL,List.map_map,List.mem_map];exact ⟨p,hp,rfl⟩)
    simpa using this
   have hnd':((ps.map fun p=>(p.1,a.eval p.2)).map (·.1)).Nodup:=by
    have:(useL (ps.map fun p=>(p.1,opAV C.ft s.slot p.2))).map (·.1)=(ps.map fun p=>(p.1,a.eval p.2)).map (·.1):=by simp [useL]
    rw [←this]
    exact hnd
   have hsize:∀ q∈ps.map (fun p=>(p.1,a.eval p.2)),q.2.cells.size=e.size∧q.1*e.size+e.size≤n*e.size:=by
    intro q hq
    obtain ⟨p,hp,rfl⟩:=List.mem_map.1 hq
    have hlt:=hrange' p hp
    refine ⟨?_,by
     have:(p.1+1)*e.size≤n*e.size:=Nat.mul_le_mul_right _ (by omega)
     rw [Nat.add_mul] at this
     simp only;omega⟩
    obtain ⟨ds,d1,d2⟩:=hel.2 p.1 (by rw [hel.1];exact hlt)
    rw [Nat.zero_add] at d2
    have hfind:(ps.map fun p=>(p.1,a.eval p.2)).find? (fun r=>r.1 == p.1)=some (p.1,a.eval p.2):=by
     have huniq:∀ (l:List (Nat×Value)),(l.map (·.1)).Nodup→∀ q∈l,l.find? (fun r=>r.1 == q.1)=some q:=by
      intro l
      induction l with
      | nil=>intro _ q hq;cases hq
      | cons c l ih=>
       intro hnd q hq
       simp only [List.map_cons,List.nodup_cons] at hnd
       rcases List.mem_cons.1 hq with rfl | hq
       ·simp
       ·have:c.1≠q.1:=fun h=>hnd.1 (h ▸ List.mem_map_of_mem hq)
        simp only [List.find?_cons,beq_eq_false_iff_ne.2 this]
        exact ih hnd.2 q hq
     exact huniq _ hnd' _ (List.mem_map.2 ⟨p,hp,rfl⟩)
    rw [hfind] at d2
    have:=RC_len e d1
    rw [d2] at this
    simpa using this
   have hz0:z.cells.size≠0:=by rw [hzs];exact hj3
   let base:Array Value:=(Array.range (n*e.size)).map (fun i=>z.cells[i % z.cells.size]!)
   have hbase:base.size=n*e.size:=by simp [base]
   obtain ⟨cs',k1,k2,k3⟩:=fillRow_run (place:=fun i=>some (i*e.size,e.size)) (fun i=>rfl) (ps.map fun p=>(p.1,a.eval p.2)) base (by rw [hbase];exact hsize) hnd'
   have hzrow:∀ i,i<n→(base.toList.drop (i*e.size)).take e.size=z.cells.toList:=by
    intro i hi
    have hle:(i+1)*e.size≤n*e.size:=Nat.mul_le_mul_right _ (by omega)
    rw [Nat.add_mul] at hle
    apply List.ext_getElem?
    intro j
    simp only [List.getElem?_take,List.getElem?_drop]
    split
    ·rename_i hj
     have hj':j<z.cells.size:=by rw [hzs];exact hj
     rw [Array.getElem?_toList,Array.getElem?_toList]
     have hmod:(i*e.size+j) % z.cells.size=j:=by rw [hzs,Nat.add_comm,Nat.add_mul_mod_self_right,Nat.mod_eq_of_lt hj]
     simp [base,show i*e.size+j<n*e.size by omega,hmod,hj']
    ·rename_i hj
     rw [List.getElem?_eq_none]
     simp [hzs]
     omega
   have hrowL:RowL C.P e F' w cs'.toList xs:=by
    refine ⟨by rw [Array.length_toList,k2,hbase,hel.1],fun i hi=>?_⟩
    have hi':i<n:=by rw [hel.1] at hi;exact hi
    have hle:(i+1)*e.size≤n*e.size:=Nat.mul_le_mul_right _ (by omega)
    rw [Nat.add_mul] at hle
    rw [k3 i (by rw [hbase];omega),hzrow i hi']
    obtain ⟨ds,d1,d2⟩:=hel.2 i hi
    rw [Nat.zero_add] at d2
    split at d2<;>rename_i hf
    ·first | (rw [hf];simp only;rw [←d2];exact d1) | (rw [←d2];exact d1)
    ·first | (rw [hf];simp only;rw [ze,←d2];exact d1) | (rw [ze,←d2];exact d1)
   have hrun:(execOp a.eval o).run C.P w=.ok (.value (.slice (some ⟨w.heap.size,0,none⟩) n n)) (w.alloc (.cells cs' eid)):=by
    have hle24:¬n*e.size > 2 ^ 24:=by omega
    simp only [execOp,ho,Instr.buildSlice,Sem.run_bind,run_underlying' hj,Result.andThen_ok,run_sizeOf' i1,i2,hle24,if_false]
    by_cases hn0:n*e.size=0
    ·have hb0:base=#[]:=Array.eq_empty_of_size_eq_zero (by rw [hbase];exact hn0)
     rw [hb0] at k1
     simp only [hn0,if_true,Sem.run_bind,Sem.run_pure,Result.andThen_ok]
     rw [show ((Array.range 0).map (fun i=>(#[]:Array Value)[i % (#[]:Array Value).size]!))=#[] from by simp]
     simp only [List.map_toArray] at k1 ⊢
     rw [show Instr.fill (fun i=>some (i*e.size,e.size)) #[] (ps.map fun x=>(x.1,a.eval x.2))=some cs' from k1]
     simp [newRow]
    ·simp only [hn0,if_false,Sem.run_bind,run_zeroValue' i1 i4,Result.andThen_ok,Sem.run_pure]
     simp only [List.map_toArray]
     rw [show Instr.fill (fun i=>some (i*e.size,e.size)) ((Array.range (n*e.size)).map (fun i=>z.cells[i % z.cells.size]!)) (ps.map fun x=>(x.1,a.eval x.2))=some cs' from k1]
     simp [newRow]
   have hset:s.setBs ((frzB fl).run s.blk++[(b,⟨(s.blk b).gen+1,.arr e xs⟩)])=(s.frz fl).setB b ⟨(s.blk b).gen+1,.arr e xs⟩:=by
    rw [setBs_snoc,setBs_frz]
   have hbf:(s.frz fl).blk b=s.blk b:=by simp [AState.frz,hnb]
   have h3:=hr'.renew (b:=b) (g:=(s.blk b).gen+1) (zs:=xs) (k:=⟨w.heap.size,0,n,false⟩) (w':=w.alloc (.cells cs' eid)) (by rw [hbf];exact Nat.lt_succ_self _) (.inr rfl) (by simp) (fun r hr=>heap_alloc_lt w _ hr) (fun _=>by simp) ⟨rfl,rfl,rfl⟩
    (fun H κ'=>⟨fun h=>(by cases h),fun _=>⟨cs',eid,heap_alloc_new w _,by rw [k2,hbase];simp,by rw [hel.1];exact Nat.le_refl _,by
     have:n≤n*e.size:=Nat.le_mul_of_pos_right _ (Nat.pos_of_ne_zero hj3)
     simp only;omega,(hrowL.rowIs (pre:=[]) (post:=[]) (by simp)).later (Ext.alloc hr'.fsz _)⟩⟩)
   refine oper_value hd hrun ?_
   simp only [AState.app]
   rw [hset]
   exact ⟨_,F',RelK.set h3 hdst ⟨⟨by simp [AState.setB],rfl⟩,fun _ _=>by simp [AState.setB,KB.slice,Body.len,hel.1]⟩⟩
  ·cases hk
 ·cases h
theorem RArgs.mono {P:Program} {t:Ty} {F F':Nat→Prop} {w w':World} {vs:List Value} {x:t.Den} (h:RArgs P t F w vs x) (hF:∀ r,F r→F' r) (he:Ext F w w'):RArgs P t F' w' vs x:=⟨h.1,RC_mono t hF he h.2⟩
theorem ok_closure {k:FuncId} {caps:List Operand} (hdst:∀ i,o.dst=some i→i<C.nt) (ho:o.op=.makeFunc (.func k) #[] ⟨caps⟩) {v:ClV} (hv:C.ft.clv k=some v)
  (h:((asArgs (tupT (v.cs.map .ptr)) ((caps.map (opAV C.ft s.slot)).map fun v=>(use v).2)).bindO fun (y,fl)=>(frzB fl).bind fun wl=>.ret (some ⟨usesObL (caps.map (opAV C.ft s.slot)),True,.val (.fn (tupT v.as) v.tr) (fun x=>v.sh (joinD v.as (v.cs.map .ptr) x y)),wl⟩):Rd (Option OpRes)).run s.blk=some res):OpOk C o s res:=by
 simp only [Rd.run_bindO,Option.bind_eq_some_iff,Rd.run_bind,Rd.run_ret,Option.some.injEq] at h
 obtain ⟨⟨y,l⟩,hy,rfl⟩:=h
 intro a w κ F Q hr hob _
 obtain ⟨F',f1,hr',f2⟩:=RelK.frzL (asArgs_closed _ hy) hr
 have hargs:RArgs C.P (tupT (v.cs.map .ptr)) F' w (caps.map a.eval) y:=by
  refine asArgs_ok hr.blks f1 _ hy f2 (by simp) fun i hi hi'=>?_
  simp only [List.getElem_map]
  have hi2:i<caps.length:=by simpa using hi'
  have h1:=usesObL_spec hob i (by simpa using hi2)
  have e1:(caps.map (opAV C.ft s.slot)).getD i .undef=opAV C.ft s.slot caps[i]:=by simp [List.getD_eq_getElem?_getD,hi2]
  rw [e1] at h1
  exact use_ok (opAV_ok hr caps[i]) h1
 obtain ⟨hs,hspec⟩:=hr.ftok.clv k v hv
 have hrun:(execOp a.eval o).run C.P w=.ok (.value (.func (.func k) #[] (caps.map a.eval).toArray)) w:=by simp [execOp,ho,Instr.makeFunc]
 refine oper_value (by rw [ho];intro c hc;cases hc) hrun ⟨κ,F',?_⟩
 simp only [AState.app]
 rw [setBs_frz]
 refine RelK.set hr' hdst ((RV_leaf rfl).2 ⟨rfl,_,rfl,⟨rfl,rfl⟩,fun F2 w2 hF2 he2 hs2 args x h1 h2 h3=>⟨k,_,rfl,hspec.enter,?_⟩⟩)
 have hj:=joinD_ok v.as (v.cs.map .ptr) hs (P:=C.P) (F:=F2) (w:=w2) ⟨h1,h2⟩ (hargs.mono hF2 he2)
 have:=hspec.calls F2 w2 _ _ hs2 hj h3
 have e:(args++caps.map a.eval).toArray=args.toArray++(caps.map a.eval).toArray:=by simp
 rw [e] at this
 exact this.mono fun e w'' ⟨v,y,e1,e2,⟨vs,e3,e4,e5⟩,e6⟩=>⟨v,y,vs,e1,e2,e3,e4,e5,e6⟩
theorem ok_iter {k:FuncId} {caps:List Operand} (hdst:∀ i,o.dst=some i→i<C.nt) (ho:o.op=.makeFunc (.func k) #[] ⟨caps⟩) {v:ItV} (hv:C.ft.itv k=some v)
  (h:((asArgs (tupT (v.cs.map .ptr)) ((caps.map (opAV C.ft s.slot)).map fun v=>(use v).2)).bindO fun (y,fl)=>(frzB fl).bind fun wl=>.ret (some ⟨usesObL (caps.map (opAV C.ft s.slot)),True,.val (.it v.A) (v.S y),wl⟩):Rd (Option OpRes)).run s.blk=some res):OpOk C o s res:=by
 simp only [Rd.run_bindO,Option.bind_eq_some_iff,Rd.run_bind,Rd.run_ret,Option.some.injEq] at h
 obtain ⟨⟨y,l⟩,hy,rfl⟩:=h
 intro a w κ F Q hr hob _
 obtain ⟨F',f1,hr',f2⟩:=RelK.frzL (asArgs_closed _ hy) hr
 have hargs:RArgs C.P (tupT (v.cs.map .ptr)) F' w (caps.map a.eval) y:=by
  refine asArgs_ok hr.blks f1 _ hy f2 (by simp) fun i hi hi'=>?_
  simp only [List.getElem_map]
  have hi2:i<caps.length:=by simpa using hi'
  have h1:=usesObL_spec hob i (by simpa using hi2)
  have e1:(caps.map (opAV C.ft s.slot)).getD i .undef=opAV C.ft s.slot caps[i]:=by simp [List.getD_eq_getElem?_getD,hi2]
  rw [e1] at h1
  exact use_ok (opAV_ok hr caps[i]) h1
 have hspec:=hr.ftok.itv k v hv
 have hrun:(execOp a.eval o).run C.P w=.ok (.value (.func (.func k) #[] (caps.map a.eval).toArray)) w:=by simp [execOp,ho,Instr.makeFunc]
 refine oper_value (by rw [ho];intro c hc;cases hc) hrun ⟨κ,F',?_⟩
 simp only [AState.app]
 rw [setBs_frz]
 refine RelK.set hr' hdst ((RV_leaf rfl).2 ⟨rfl,_,rfl,⟨rfl,rfl⟩,fun F2 w2 hF2 he2 hs2 hne=>⟨k,_,rfl,hspec.enter,fun l I Y hY hP hI=>?_⟩⟩)
 exact hspec.calls F2 w2 _ _ hs2 (hargs.mono hF2 he2) hne l I Y hY hP hI
theorem ok_makeFunc {k:FuncId} {caps:Array Operand} (hdst:∀ i,o.dst=some i→i<C.nt) (ho:o.op=.makeFunc (.func k) #[] caps) (h:(opV C.ft T Φ (opAV C.ft s.slot) o).run s.blk=some res):OpOk C o s res:=by
 obtain ⟨caps⟩:=caps
 simp only [opV,ho,Array.isEmpty_empty,if_true] at h
 split at h
 case h_1 v hv=>exact ok_closure hdst ho hv h
 split at h
 case h_1 v hv=>exact ok_iter hdst ho hv h
 simp only [okRes,Rd.run_ret,Option.some.injEq] at h
 subst h
 refine OpOk.pure (by rw [ho];intro c hc;cases hc) hdst fun a w κ F hr hob _=>?_
 refine ⟨.func (.func k) #[] (caps.map a.eval).toArray,by simp [execOp,ho,Instr.makeFunc],caps.map a.eval,rfl,by simp,fun i hi=>?_⟩
 have hi':i<caps.length:=by simpa using hi
 have h1:(use ((caps.map (opAV C.ft s.slot)).getD i .undef)).1:=usesObL_spec hob i (by simpa using hi)
 have e1:(caps.map (opAV C.ft s.slot)).getD i .undef=opAV C.ft s.slot caps[i]:=by simp [List.getD_eq_getElem?_getD,hi']
 rw [e1] at h1
 have h2:=use_ok (opAV_ok hr caps[i]) h1
 have e2:(caps.map a.eval).getD i Go.undef=a.eval caps[i]:=by simp [List.getD_eq_getElem?_getD,hi']
 have e3:nthAV ((caps.map (opAV C.ft s.slot)).map fun v=>(use v).2) i=(use (opAV C.ft s.slot caps[i])).2:=by simp [nthAV,List.getD_eq_getElem?_getD,hi']
 rw [e2]
 show RA _ _ _ _ _ (nthAV ((caps.map (opAV C.ft s.slot)).map fun v=>(use v).2) i) _
 rw [e3]
 exact h2
theorem ok_method {k:FuncId} {first caps:Array Operand} (hdst:∀ i,o.dst=some i→i<C.nt) (ho:o.op=.makeFunc (.func k) first caps) (hf:first.isEmpty=false) (h:(opV C.ft T Φ (opAV C.ft s.slot) o).run s.blk=some res):OpOk C o s res:=by
 obtain ⟨first⟩:=first
 simp only [opV,ho,hf,Bool.false_eq_true,if_false] at h
 split at h
 ·rename_i hc
  have hc:caps=#[]:=by simpa using hc
  subst hc
  simp only [okRes,Rd.run_ret,Option.some.injEq] at h
  subst h
  refine OpOk.pure (by rw [ho];intro c hc;cases hc) hdst fun a w κ F hr hob _=>?_
  refine ⟨.func (.func k) (first.map a.eval).toArray #[],by simp [execOp,ho,Instr.makeFunc],first.map a.eval,rfl,by simp,fun i hi=>?_⟩
  have hi':i<first.length:=by simpa using hi
  have h1:(use ((first.map (opAV C.ft s.slot)).getD i .undef)).1:=usesObL_spec hob i (by simpa using hi)
  have e1:(first.map (opAV C.ft s.slot)).getD i .undef=opAV C.ft s.slot first[i]:=by simp [List.getD_eq_getElem?_getD,hi']
  rw [e1] at h1
  have h2:=use_ok (opAV_ok hr first[i]) h1
  have e2:(first.map a.eval).getD i Go.undef=a.eval first[i]:=by simp [List.getD_eq_getElem?_getD,hi']
  have e3:nthAV ((first.map (opAV C.ft s.slot)).map fun v=>(use v).2) i=(use (opAV C.ft s.slot first[i])).2:=by simp [nthAV,List.getD_eq_getElem?_getD,hi']
  rw [e2]
  show RA _ _ _ _ _ (nthAV ((first.map (opAV C.ft s.slot)).map fun v=>(use v).2) i) _
  rw [e3]
  exact h2
 ·cases h
def dstOk (o:Oper) (nt:Nat):Bool:=
 (match o.dst with | some d=>decide (d<nt) | none=>true)&&(match o.op with | .store _ _ _=>o.dst.isNone | .mapUpdate _ _ _ _=>o.dst.isNone | .insert _ _ _ _=>o.dst.isNone | _=>true)
theorem opV_ok (hT:TabOk C.P T) (hΦ:CtrOk C.P Φ) (hd:dstOk o C.nt=true) (h:(opV C.ft T Φ (opAV C.ft s.slot) o).run s.blk=some res):OpOk C o s res:=by
 simp only [dstOk,Bool.and_eq_true] at hd
 have hdst:∀ i,o.dst=some i→i<C.nt:=fun i hi=>by
  have:=hd.1
  rw [hi] at this
  simpa using this
 cases ho:o.op with
 | move x=>exact ok_move hdst ho h
 | assign x=>exact ok_assign hdst ho h
 | pick c a b=>exact ok_pick hdst ho h
 | binOp op t x y t'=>exact ok_binOp hT hdst ho h
 | unOp op t x=>exact ok_unOp hdst ho h
 | extract t i=>exact ok_extract hdst ho h
 | nilCheck x=>exact ok_nilCheck hdst ho h
 | fieldAddr t x f=>exact ok_fieldAddr hT hdst ho h
 | field t x f=>exact ok_field hT hdst ho h
 | load t x=>exact ok_load hT hdst ho h
 | store t x y=>
  have:=hd.2
  rw [ho] at this
  exact ok_store hT (by simpa using this) ho h
 | alloc t=>
  by_cases ht:T t=.unit
  ·simp only [opV,ho,ht] at h
   obtain ⟨_,_,hk⟩:=newB_some h
   simp at hk
  ·exact ok_alloc hT hdst ho h ht
 | box t x=>exact ok_box hdst ho h
 | build t ps=>exact ok_build hT hdst ho h
 | buildSlice t n ps=>exact ok_buildSlice hT hdst ho h
 | indexAddr t x i=>exact ok_indexAddr hT hdst ho h
 | index t x i=>exact ok_index hT hdst ho h
 | convert a b x=>exact ok_convert hT hdst ho h
 | makeFunc fn first caps=>
  cases fn with
  | func k=>
   by_cases hf:first=#[]
   ·subst hf;exact ok_makeFunc hdst ho h
   ·exact ok_method hdst ho (by simpa using hf) h
  | _=>simp [opV,ho,Rd.none] at h
 | makeMap t r=>exact ok_makeMap hdst ho h
 | lookup t m x ok=>exact ok_lookup hT hdst ho h
 | mapUpdate t m x y=>
  have:=hd.2
  rw [ho] at this
  exact ok_mapUpdate hT (by simpa using this) (.inl ho) h
 | insert t m x y=>
  have:=hd.2
  rw [ho] at this
  exact ok_mapUpdate hT (by simpa using this) (.inr ho) h
 | makeSlice t l c=>exact ok_makeSlice hT hdst ho h
 | makeInterface t x=>exact ok_never (by simp [opV,ho,okRes]) h
 | panic x=>exact ok_never (by simp [opV,ho,okRes]) h
 | slice t x lo hi mx=>
  cases mx with
  | none=>exact ok_slice hT hdst ho h
  | some m=>exact ok_slice3 hT hdst ho h
 | call c=>
  obtain ⟨callee,args,tys⟩:=c
  cases callee with
  | value f=>
   cases f with
   | func k=>exact ok_callF hΦ hdst ho h
   | _=>simp [opV,ho,callV,Rd.none] at h
  | invoke r m=>simp [opV,ho,callV,Rd.none] at h
  | builtin b=>
   cases b with
   | len=>exact ok_len hT hdst ho h
   | append=>
    cases hs:appSame (opAV C.ft s.slot) args.toList with
    | none=>exact ok_append hT hdst ho (by simpa [opV,ho,callV,hs] using h)
    | some p=>exact ok_appIn hT hdst ho hs (by simpa [opV,ho,callV,hs] using h)
   | clear=>exact ok_clear hT hdst ho (by simpa [opV,ho,callV] using h)
   | copy=>exact ok_copy hT hdst ho h
   | min=>exact ok_minmax (.inl ⟨rfl,rfl⟩) hdst ho (by simpa [opV,ho,callV] using h)
   | max=>exact ok_minmax (.inr ⟨rfl,rfl⟩) hdst ho (by simpa [opV,ho,callV] using h)
   | cap=>exact ok_cap hT hdst ho (by simpa [opV,ho,callV] using h)
   | _=>simp [opV,ho,callV,Rd.none] at h
 | _=>simp [opV,ho,Rd.none] at h
end
end Go.Fer
namespace Go.Fer
open Go.RowKit
def Rd.All {α:Type} (p:α→Prop):Rd α→Prop
 | .ret a=>p a
 | .get _ k=>∀ x,(k x).All p
theorem Rd.All.run {α:Type} {p:α→Prop} {m:Rd α} (h:m.All p) (H:Nat→ABlk):p (m.run H):=by
 induction m with
 | ret a=>exact h
 | get b k ih=>exact ih _ (h _)
theorem Rd.All.bind {α β:Type} {p:β→Prop} {m:Rd α} {f:α→Rd β} (h:∀ a,(f a).All p):(m.bind f).All p:=by
 induction m with
 | ret a=>exact h a
 | get b k ih=>exact fun x=>ih x
def optP {α:Type} (p:α→Prop) (x:Option α):Prop:=∀ a,x=some a→p a
theorem Rd.All.bindO {α β:Type} {p:β→Prop} {m:Rd (Option α)} {f:α→Rd (Option β)} (h:∀ a,(f a).All (optP p)):(m.bindO f).All (optP p):=by
 refine Rd.All.bind fun a=>?_
 cases a with
 | none=>intro a h;cases h
 | some a=>exact h a
theorem Rd.All.bindO' {α β:Type} {q:α→Prop} {p:β→Prop} {m:Rd (Option α)} {f:α→Rd (Option β)} (hm:m.All (optP q)) (h:∀ a,q a→(f a).All (optP p)):(m.bindO f).All (optP p):=by
 unfold Rd.bindO
 induction m with
 | ret a=>
  cases a with
  | none=>intro b hb;cases hb
  | some a=>exact h a (hm a rfl)
 | get b k ih=>exact fun x=>ih x (hm x)
theorem Rd.All.none' {α:Type} {p:α→Prop}:(Rd.none:Rd (Option α)).All (optP p):=by intro a h;cases h
theorem Rd.All.some' {α:Type} {p:α→Prop} {a:α} (h:p a):(Rd.ret (some a)).All (optP p):=by intro b hb;cases hb;exact h
theorem Rd.All.nil {α:Type} {p:α→Prop}:(Rd.ret (Option.none:Option α)).All (optP p):=by intro b hb;cases hb
theorem Rd.All.okRes {p:OpRes→Prop} {ob c:Prop} {v:AV} (h:p ⟨ob,c,v,[]⟩):(okRes ob c v).All (optP p):=Rd.All.some' h
theorem Rd.All.newB {p:OpRes→Prop} {d:Option Nat} {k:Nat→Nat→Option OpRes} (h:∀ b g,optP p (k b g)):(newB d k).All (optP p):=by
 unfold Go.Fer.newB
 split
 ·exact .none'
 ·exact fun x=>h _ _
def AV.isWhn:AV→Bool
 | .whn _ _=>true
 | _=>false
theorem use_free {a:AV} (h:a.isWhn=false):(use a).1:=by
 cases a<;>first | trivial | cases h
def obF (ρ:Operand→AV) (o:Oper):Bool:=o.op.operands.toList.all fun x=>!(ρ x).isWhn
def AV.noMap:AV→Bool
 | .mapl _ _=>false
 | .val (.map _ _) _=>false
 | _=>true
def cFB (ρ:Operand→AV) (b:Builtin) (args:List Operand):Bool:=
 match b with
 | .len=>match args with
  | [x]=>(use (ρ x)).2.noMap
  | _=>false
 | .min=>true
 | .max=>true
 | _=>false
def cF (ρ:Operand→AV) (o:Oper):Bool:=
 match o.op with
 | .move _ | .assign _ | .pick .. | .unOp .. | .extract .. | .fieldAddr .. | .field .. | .load .. | .store .. | .alloc .. | .box .. | .build .. | .buildSlice .. | .convert .. | .makeFunc .. | .makeMap .. | .lookup .. | .mapUpdate .. | .insert ..=>true
 | .binOp op _ x _ _=>match op with
  | .quo | .rem | .shl | .shr=>false
  | .add=>(use (ρ x)).2.int?.isSome
  | _=>true
 | .call c=>match c.callee with
  | .builtin b=>cFB ρ b c.args.toList
  | _=>false
 | _=>false
theorem intOp_c {op:BinOp} {k:IntKind} {a b:Int} {c:Prop} {v:AV} (h:intOp op k a b=some (c,v)) (h1:op≠.quo) (h2:op≠.rem):c:=by
 cases op<;>simp only [intOp,Option.some.injEq,Prod.mk.injEq,reduceCtorEq] at h<;>first | (obtain ⟨rfl,_⟩:=h;trivial) | contradiction
theorem strOp_c {op:BinOp} {a b:List UInt8} {c:Prop} {v:AV} (h:strOp op a b=some (c,v)) (h1:op≠.add):c:=by
 cases op<;>simp only [strOp,Option.some.injEq,Prod.mk.injEq,reduceCtorEq] at h<;>first | (obtain ⟨rfl,_⟩:=h;trivial) | contradiction
theorem eqOp_c {op:BinOp} {t:Ty} {x y:AV}:(eqOp op t x y).All (optP fun r=>r.1):=by
 unfold eqOp
 refine Rd.All.bindO fun e=>?_
 cases op<;>first | exact .some' trivial | exact .nil
section
variable {U:FnTab} {T:Nat→Ty} {Φ:Nat→Option FC} {ρ:Operand→AV} {o:Oper}
theorem binOp_c {op:BinOp} {ty:TypeId} {x y:Operand} {t:TypeId} (ho:o.op=.binOp op ty x y t) (hc:cF ρ o=true):(opV U T Φ ρ o).All (optP fun r=>r.c):=by
 unfold opV
 rw [ho]
 simp only
 simp only [cF,ho] at hc
 split
 ·rename_i k a k' b h1 h2
  split
  ·cases hc
  ·cases hc
  ·split
   ·split
    ·rename_i c v hi
     refine .okRes (intOp_c hi ?_ ?_)<;>(intro e;subst e;simp at hc)
    ·exact .none'
   ·exact .none'
 ·rename_i hno
  split
  ·rename_i a b h1 h2
   split
   ·rename_i c v hi
    refine .okRes (strOp_c hi ?_)
    intro e
    subst e
    simp only at hc
    generalize (use (ρ x)).2=z at hc h1
    cases z<;>try (cases h1;done)
    rename_i t d
    cases t<;>first | (cases h1;done) | (cases hc;done)
   ·exact .none'
  ·exact Rd.All.bindO' eqOp_c fun r hr=>.okRes hr
theorem mapUp_all {p:OpRes→Prop} {ty:TypeId} {m x y:Operand} (h:∀ wl,p ⟨(use (ρ m)).1∧(use (ρ x)).1∧(use (ρ y)).1,True,.undef,wl⟩):(mapUpV T ρ ty m x y).All (optP p):=by
 unfold mapUpV
 split
 ·simp only
  split
  ·split
   ·refine Rd.All.bindO fun _=>Rd.All.bindO fun _=>Rd.All.bind fun _=>fun z=>?_
    intro r hr
    split at hr
    ·split at hr
     ·simp only [Option.map_eq_some_iff] at hr
      obtain ⟨_,_,rfl⟩:=hr
      exact h _
     ·cases hr
    ·cases hr
   ·exact .none'
  ·exact .none'
 ·exact .none'
theorem mapUp_c {ty:TypeId} {m x y:Operand}:(mapUpV T ρ ty m x y).All (optP fun r=>r.c):=mapUp_all fun _=>trivial
theorem opV_c (hc:cF ρ o=true):(opV U T Φ ρ o).All (optP fun r=>r.c):=by
 cases ho:o.op with
 | binOp op ty x y t=>exact binOp_c ho hc
 | move x=>unfold opV;rw [ho];exact .okRes trivial
 | assign x=>
  unfold opV;rw [ho];simp only
  split
  ·exact .newB fun b g=>fun r hr=>by cases hr;trivial
  ·exact .okRes trivial
 | pick c a b=>
  unfold opV;rw [ho];simp only
  split
  ·split
   ·split
    ·exact .okRes trivial
    ·exact .none'
   ·split
    ·exact .okRes trivial
    ·exact .none'
   ·exact .none'
  ·exact .none'
 | unOp op t x=>
  unfold opV;rw [ho];simp only
  split
  ·exact .okRes trivial
  ·exact .okRes trivial
  ·exact .none'
 | extract x i=>
  unfold opV;rw [ho];simp only
  split
  ·split
   ·exact .okRes trivial
   ·exact .none'
  ·exact .none'
 | fieldAddr ty x f=>
  unfold opV;rw [ho];simp only
  repeat' first | exact .none' | exact .okRes trivial | split
  all_goals first
   | (intro z;intro r hr;split at hr<;>cases hr;trivial)
 | field ty x f=>
  unfold opV;rw [ho];simp only
  repeat' first | exact .none' | exact .okRes trivial | split
 | load ty x=>unfold opV;rw [ho];exact Rd.All.bindO fun _=>.okRes trivial
 | store ty x y=>unfold opV;rw [ho];exact Rd.All.bindO fun _=>.some' trivial
 | alloc ty=>
  unfold opV;rw [ho];simp only
  exact .newB fun b g=>fun r hr=>by split at hr<;>cases hr;trivial
 | box ty x=>
  unfold opV;rw [ho];simp only
  split
  ·exact .newB fun b g=>fun r hr=>by split at hr<;>cases hr;trivial
  ·exact .none'
 | build ty ps=>
  unfold opV;rw [ho];simp only
  repeat' first | exact .none' | exact .okRes trivial | split
 | buildSlice ty n ps=>
  unfold opV;rw [ho];simp only
  split
  ·refine Rd.All.bindO fun _=>Rd.All.bind fun _=>.newB fun b g=>fun r hr=>by split at hr<;>cases hr;trivial
  ·exact .none'
 | convert a b x=>
  unfold opV;rw [ho];simp only
  repeat' first | exact .none' | exact .okRes trivial | split
 | makeFunc fn first caps=>
  unfold opV;rw [ho];simp only
  split
  ·split
   ·split
    ·exact Rd.All.bindO fun _=>Rd.All.bind fun _=>.some' trivial
    ·split
     ·exact Rd.All.bindO fun _=>Rd.All.bind fun _=>.some' trivial
     ·exact .okRes trivial
   ·split
    ·exact .okRes trivial
    ·exact .none'
  ·exact .none'
 | makeMap ty r=>
  unfold opV;rw [ho];simp only
  split
  ·exact .none'
  ·split
   ·exact .newB fun b g=>fun r hr=>by cases hr;trivial
   ·exact .none'
 | lookup ty m x ok=>
  unfold opV;rw [ho];simp only
  unfold lookOpV
  split
  ·simp only
   split
   ·exact Rd.All.bindO fun _=>Rd.All.bindO fun _=>.okRes trivial
   ·exact .none'
  ·exact .none'
 | mapUpdate ty m x y=>
  unfold opV;rw [ho]
  exact mapUp_c
 | insert ty m x y=>
  unfold opV;rw [ho]
  exact mapUp_c
 | call c=>
  obtain ⟨callee,args,tys⟩:=c
  simp only [cF,ho] at hc
  unfold opV;rw [ho];simp only
  unfold callV
  cases callee with
  | builtin b=>
   simp only at hc ⊢
   cases b with
   | len=>
    simp only [lenOpV]
    split
    ·rename_i x t e1 e2
     simp only [cFB,e1] at hc
     generalize use (ρ x)=u at hc
     obtain ⟨ox,vx⟩:=u
     simp only at hc ⊢
     refine Rd.All.bindO' (q:=fun r:Prop×Int=>r.1) ?_ fun r hr=>.okRes hr
     generalize T t=ty
     cases ty<;>simp only [lenV]<;>first | exact .none' | skip
     ·cases vx<;>first | exact .none' | skip
      ·rename_i t' d
       cases t'<;>first | exact .none' | exact .some' trivial
     ·cases vx<;>first | exact .none' | exact .some' trivial | skip
      ·rename_i t' d
       cases t'<;>first | exact .none' | exact .some' trivial
      ·intro z r hr;split at hr<;>cases hr;trivial
      ·intro z r hr;split at hr<;>cases hr;trivial
     ·cases vx<;>first | exact .none' | (cases hc;done) | skip
      ·rename_i t' d
       cases t'<;>first | exact .none' | cases hc
    ·exact .none'
   | min=>
    simp only [minMaxV]
    split
    ·split
     ·split
      ·exact .okRes trivial
      ·exact .none'
     ·exact .none'
    ·split
     ·split
      ·exact .okRes trivial
      ·exact .none'
     ·exact .none'
    ·exact .none'
   | max=>
    simp only [minMaxV]
    split
    ·split
     ·split
      ·exact .okRes trivial
      ·exact .none'
     ·exact .none'
    ·split
     ·split
      ·exact .okRes trivial
      ·exact .none'
     ·exact .none'
    ·exact .none'
   | _=>simp [cFB] at hc
  | _=>cases hc
 | _=>simp [cF,ho] at hc
theorem usesObL_free:∀ {l:List AV},(∀ v∈l,(use v).1)→usesObL l
 | [],_=>trivial
 | v::l,h=>by
  have h1:=h v (by simp)
  have h2:=usesObL_free (l:=l) fun u hu=>h u (by simp [hu])
  cases v<;>first | exact h2 | exact ⟨h1,h2⟩
theorem usesOb_free:∀ {l:List (Nat×AV)},(∀ v∈l,(use v.2).1)→usesOb l
 | [],_=>trivial
 | (i,v)::l,h=>by
  have h1:=h (i,v) (by simp)
  have h2:=usesOb_free (l:=l) fun u hu=>h u (by simp [hu])
  cases v<;>first | exact h2 | exact ⟨h1,h2⟩
theorem boundV_free {x:Option Operand} {p:Prop} {n:Option Int} (h:boundV ρ x=some (p,n)) (hx:∀ y,x=some y→(use (ρ y)).1):p:=by
 unfold boundV at h
 split at h
 ·cases h;trivial
 ·rename_i y
  split at h
  ·rename_i o k m hu
   cases h
   have:=hx y rfl
   rw [hu] at this
   exact this
  ·cases h
def UseOk (ρ:Operand→AV) (o:Oper):Prop:=∀ x∈o.op.operands.toList,(use (ρ x)).1
theorem obF_ok {ρ:Operand→AV} {o:Oper} (h:obF ρ o=true):UseOk ρ o:=fun x hx=>use_free (by simpa using List.all_eq_true.1 h x hx)
theorem UseOk.use {ρ:Operand→AV} {o:Oper} (h:UseOk ρ o) {x:Operand} (hx:x∈o.op.operands.toList) {ob:Prop} {v:AV} (hu:use (ρ x)=(ob,v)):ob:=by
 have:=h x hx
 rw [hu] at this
 exact this
theorem opV_obU (hu1:UseOk ρ o):(opV U T Φ ρ o).All (optP fun r=>r.ob):=by
 unfold UseOk at hu1
 have hf:∀ x∈o.op.operands.toList,(use (ρ x)).1:=hu1
 have hu:∀ x∈o.op.operands.toList,∀ {ob:Prop} {v:AV},use (ρ x)=(ob,v)→ob:=fun x hx ob v h=>UseOk.use hu1 hx h
 cases ho:o.op with
 | move x=>unfold opV;rw [ho];exact .okRes trivial
 | assign x=>
  unfold opV;rw [ho];simp only
  split
  ·exact .newB fun b g=>fun r hr=>by cases hr;trivial
  ·exact .okRes trivial
 | pick c a b=>
  rw [ho] at hu
  unfold opV;rw [ho];simp only
  split
  ·rename_i oc cv hcv
   have h1:=hu c (by simp [Op.operands]) hcv
   split
   ·split
    ·rename_i oa av ha
     exact .okRes ⟨h1,fun _=>hu a (by simp [Op.operands]) ha⟩
    ·exact .none'
   ·split
    ·rename_i oa av ha
     exact .okRes ⟨h1,fun _=>hu b (by simp [Op.operands]) ha⟩
    ·exact .none'
   ·exact .none'
  ·exact .none'
 | binOp op ty x y t=>
  rw [ho] at hu1
  have h:=And.intro (hu1 x (by simp [Op.operands])) (hu1 y (by simp [Op.operands]))
  unfold opV;rw [ho];simp only
  split
  ·split
   ·split
    ·exact .okRes h
    ·exact .none'
   ·split
    ·exact .okRes h
    ·exact .none'
   ·split
    ·split
     ·exact .okRes h
     ·exact .none'
    ·exact .none'
  ·split
   ·split
    ·exact .okRes h
    ·exact .none'
   ·exact Rd.All.bindO fun _=>.okRes h
 | unOp op t x=>
  rw [ho] at hu
  unfold opV;rw [ho];simp only
  split
  ·rename_i hx;exact .okRes (hu x (by simp [Op.operands]) hx)
  ·rename_i hx;exact .okRes (hu x (by simp [Op.operands]) hx)
  ·exact .none'
 | extract x i=>
  rw [ho] at hu
  unfold opV;rw [ho];simp only
  split
  ·rename_i hx
   split
   ·exact .okRes (hu x (by simp [Op.operands]) hx)
   ·exact .none'
  ·exact .none'
 | nilCheck x=>
  rw [ho] at hu
  unfold opV;rw [ho];simp only
  split
  ·rename_i hx;exact .okRes (hu x (by simp [Op.operands]) hx)
  ·rename_i hx;exact .okRes (hu x (by simp [Op.operands]) hx)
  ·rename_i hx
   intro z r hr
   split at hr<;>cases hr
   exact hu x (by simp [Op.operands]) hx
  ·exact .none'
 | fieldAddr ty x f=>
  rw [ho] at hu
  unfold opV;rw [ho];simp only
  split
  ·split
   ·split
    ·rename_i hx
     intro z r hr
     split at hr<;>cases hr
     exact hu x (by simp [Op.operands]) hx
    ·rename_i hx
     intro z r hr
     split at hr<;>cases hr
     exact hu x (by simp [Op.operands]) hx
    ·rename_i hx
     split
     ·split
      ·exact .okRes (hu x (by simp [Op.operands]) hx)
      ·exact .none'
     ·exact .none'
    ·exact .none'
   ·exact .none'
  ·exact .none'
 | field ty x f=>
  rw [ho] at hu
  unfold opV;rw [ho];simp only
  split
  ·split
   ·rename_i hx
    split
    ·split
     ·exact .okRes (hu x (by simp [Op.operands]) hx)
     ·exact .none'
    ·exact .none'
   ·exact .none'
  ·exact .none'
 | load ty x=>
  rw [ho] at hu1
  unfold opV;rw [ho];exact Rd.All.bindO fun _=>.okRes (hu1 x (by simp [Op.operands]))
 | store ty x y=>
  rw [ho] at hu1
  unfold opV;rw [ho];exact Rd.All.bindO fun _=>.some' ⟨hu1 x (by simp [Op.operands]),hu1 y (by simp [Op.operands])⟩
 | alloc ty=>
  unfold opV;rw [ho];simp only
  exact .newB fun b g=>fun r hr=>by split at hr<;>cases hr;trivial
 | box ty x=>
  rw [ho] at hu1
  unfold opV;rw [ho];simp only
  split
  ·exact .newB fun b g=>fun r hr=>by split at hr<;>cases hr;exact hu1 x (by simp [Op.operands])
  ·exact .none'
 | build ty ps=>
  rw [ho] at hf
  have h:usesOb (ps.toList.map fun p=>(p.1,ρ p.2)):=usesOb_free fun v hv=>by
   simp only [List.mem_map] at hv
   obtain ⟨p,hp,rfl⟩:=hv
   exact hf p.2 (by simp only [Op.operands,List.mem_map];exact ⟨p,hp,rfl⟩)
  unfold opV;rw [ho];simp only
  split
  ·split
   ·exact .okRes h
   ·exact .none'
  ·exact .none'
 | buildSlice ty n ps=>
  rw [ho] at hf
  have h:usesOb (ps.toList.map fun p=>(p.1,ρ p.2)):=usesOb_free fun v hv=>by
   simp only [List.mem_map] at hv
   obtain ⟨p,hp,rfl⟩:=hv
   exact hf p.2 (by simp only [Op.operands,List.mem_map];exact ⟨p,hp,rfl⟩)
  unfold opV;rw [ho];simp only
  split
  ·refine Rd.All.bindO fun _=>Rd.All.bind fun _=>.newB fun b g=>fun r hr=>by split at hr<;>cases hr;exact h
  ·exact .none'
 | indexAddr ty x i=>
  rw [ho] at hu1
  have h:=And.intro (hu1 x (by simp [Op.operands])) (hu1 i (by simp [Op.operands]))
  unfold opV;rw [ho];simp only
  split
  ·exact Rd.All.bindO fun _=>.okRes h
  ·split
   ·split
    ·exact .okRes h
    ·exact .none'
   ·intro z r hr
    split at hr<;>cases hr
    exact h
   ·exact .none'
  ·exact .none'
 | index ty x i=>
  rw [ho] at hu1
  have h:=And.intro (hu1 x (by simp [Op.operands])) (hu1 i (by simp [Op.operands]))
  unfold opV;rw [ho];simp only
  split
  ·exact .okRes h
  ·split
   ·split
    ·exact .okRes h
    ·exact .none'
   ·split
    ·exact .okRes h
    ·exact .none'
   ·exact .none'
  ·exact .none'
 | convert a b x=>
  rw [ho] at hu1
  unfold opV;rw [ho];simp only
  split
  ·exact .okRes (hu1 x (by simp [Op.operands]))
  ·exact .none'
 | makeFunc fn first caps=>
  rw [ho] at hf
  have h:usesObL (caps.toList.map ρ):=usesObL_free fun v hv=>by
   simp only [List.mem_map] at hv
   obtain ⟨p,hp,rfl⟩:=hv
   exact hf p (by simp [Op.operands];simp_all)
  have h2:usesObL (first.toList.map ρ):=usesObL_free fun v hv=>by
   simp only [List.mem_map] at hv
   obtain ⟨p,hp,rfl⟩:=hv
   exact hf p (by simp [Op.operands];simp_all)
  unfold opV;rw [ho];simp only
  split
  ·split
   ·split
    ·exact Rd.All.bindO fun _=>Rd.All.bind fun _=>.some' h
    ·split
     ·exact Rd.All.bindO fun _=>Rd.All.bind fun _=>.some' h
     ·exact .okRes h
   ·split
    ·exact .okRes h2
    ·exact .none'
  ·exact .none'
 | slice ty x lo hi mx=>
  rw [ho] at hf hu1
  unfold opV;rw [ho];simp only
  split
  ·unfold slice3OpV
   simp only
   split
   ·rename_i ol l oh h om m hl hh hm
    have hob:=And.intro (hu1 x (by simp [Op.operands])) (And.intro (boundV_free hl fun y hy=>hf y (by subst hy;simp [Op.operands])) (And.intro (boundV_free hh fun y hy=>hf y (by subst hy;simp [Op.operands])) (boundV_free hm fun y hy=>hf y (by subst hy;simp [Op.operands]))))
    split
    ·exact Rd.All.bindO fun _=>.some' hob
    ·exact .none'
   ·exact .none'
  ·unfold sliceOpV
   simp only
   split
   ·rename_i ol l oh h hl hh
    have hob:=And.intro (hu1 x (by simp [Op.operands])) (And.intro (boundV_free hl fun y hy=>hf y (by subst hy;simp [Op.operands])) (boundV_free hh fun y hy=>hf y (by subst hy;simp [Op.operands])))
    split
    ·exact Rd.All.bindO fun _=>.some' hob
    ·split
     ·exact .okRes hob
     ·exact .none'
    ·exact .none'
   ·exact .none'
 | call c=>
  rw [ho] at hf hu1
  obtain ⟨callee,args,tys⟩:=c
  have hargs:∀ x∈args.toList,(use (ρ x)).1:=fun x hx=>hf x (by simp [Op.operands,Call.operands];simp_all)
  have hargs1:∀ x∈args.toList,(use (ρ x)).1:=hargs
  have hall:usesObL (args.toList.map ρ):=usesObL_free fun v hv=>by
   simp only [List.mem_map] at hv
   obtain ⟨p,hp,rfl⟩:=hv
   exact hargs p hp
  unfold opV;rw [ho];simp only
  unfold callV
  simp only
  split
  ·split
   ·unfold lenOpV
    split
    ·rename_i x t e1 e2
     exact Rd.All.bindO fun _=>.okRes (hargs1 x (by simp [e1]))
    ·exact .none'
   ·split
    ·unfold appInV
     split
     ·rename_i x y t u e1 e2
      have h:=And.intro (hargs1 x (by simp [e1])) (hargs1 y (by simp [e1]))
      split
      ·simp only
       refine Rd.All.bindO fun _=>fun z=>?_
       intro r hr
       split at hr
       ·split at hr
        ·split at hr
         ·cases hr;exact h
         ·cases hr
        ·cases hr
       ·cases hr
      ·exact .none'
     ·exact .none'
    unfold appendOpV
    split
    ·rename_i x y t u e1 e2
     have h:=And.intro (hargs1 x (by simp [e1])) (hargs1 y (by simp [e1]))
     split
     ·simp only
      unfold appendV
      split
      ·intro z
       dsimp only
       split
       ·split
        ·exact Rd.All.bindO fun _=>.some' h
        ·exact .none'
       ·exact .none'
      ·intro z
       dsimp only
       split
       ·split
        ·exact Rd.All.bindO fun _=>.some' h
        ·exact .none'
       ·exact .none'
      ·exact Rd.All.bindO fun _=>.newB fun b g=>fun r hr=>by cases hr;exact h
      ·split
       ·exact Rd.All.bindO fun _=>.newB fun b g=>fun r hr=>by cases hr;exact h
       ·exact .none'
      ·exact .none'
     ·exact .none'
    ·exact .none'
   ·unfold clearOpV
    split
    ·rename_i x t e1 e2
     have h:=hargs1 x (by simp [e1])
     split
     ·simp only
      split
      ·intro z
       intro r hr
       split at hr
       ·split at hr
        ·split at hr
         ·cases hr;exact h
         ·cases hr
        ·cases hr
       ·cases hr
      ·exact .none'
     ·exact .none'
    ·exact .none'
   ·unfold copyOpV
    split
    ·rename_i x y t u e1 e2
     have h:=And.intro (hargs1 x (by simp [e1])) (hargs1 y (by simp [e1]))
     split
     ·simp only
      split
      ·refine Rd.All.bindO fun _=>fun z=>?_
       intro r hr
       split at hr
       ·split at hr
        ·split at hr
         ·cases hr;exact h
         ·cases hr
        ·cases hr
       ·cases hr
      ·exact .none'
     ·exact .none'
    ·exact .none'
   ·unfold minMaxV
    split
    ·rename_i x y e1
     have h:=And.intro (hargs1 x (by simp [e1])) (hargs1 y (by simp [e1]))
     simp only
     split
     ·split
      ·exact .okRes h
      ·exact .none'
     ·exact .none'
    ·rename_i x y z e1
     have h:=And.intro (hargs1 x (by simp [e1])) (And.intro (hargs1 y (by simp [e1])) (hargs1 z (by simp [e1])))
     simp only
     split
     ·split
      ·exact .okRes h
      ·exact .none'
     ·exact .none'
    ·exact .none'
   ·unfold minMaxV
    split
    ·rename_i x y e1
     have h:=And.intro (hargs1 x (by simp [e1])) (hargs1 y (by simp [e1]))
     simp only
     split
     ·split
      ·exact .okRes h
      ·exact .none'
     ·exact .none'
    ·rename_i x y z e1
     have h:=And.intro (hargs1 x (by simp [e1])) (And.intro (hargs1 y (by simp [e1])) (hargs1 z (by simp [e1])))
     simp only
     split
     ·split
      ·exact .okRes h
      ·exact .none'
     ·exact .none'
    ·exact .none'
   ·unfold capOpV
    split
    ·rename_i x t e1 e2
     have h:=hargs1 x (by simp [e1])
     split
     ·rename_i e3
      exact .okRes (by rw [e3] at h;exact h)
     ·exact .none'
    ·exact .none'
   ·exact .none'
  ·split
   ·unfold callFV
    simp only
    split
    ·exact Rd.All.bindO fun _=>Rd.All.bind fun _=>.some' hall
    ·exact .none'
   ·exact .none'
  ·exact .none'
 | makeMap ty r=>
  unfold opV;rw [ho];simp only
  split
  ·exact .none'
  ·split
   ·exact .newB fun b g=>fun r hr=>by cases hr;trivial
   ·exact .none'
 | lookup ty m x ok=>
  rw [ho] at hu1
  have h:=And.intro (hu1 m (by simp [Op.operands])) (hu1 x (by simp [Op.operands]))
  unfold opV;rw [ho];simp only
  unfold lookOpV
  split
  ·simp only
   split
   ·exact Rd.All.bindO fun _=>Rd.All.bindO fun _=>.okRes h
   ·exact .none'
  ·exact .none'
 | mapUpdate ty m x y=>
  rw [ho] at hu1
  unfold opV;rw [ho]
  exact mapUp_all fun _=>⟨hu1 m (by simp [Op.operands]),hu1 x (by simp [Op.operands]),hu1 y (by simp [Op.operands])⟩
 | insert ty m x y=>
  rw [ho] at hu1
  unfold opV;rw [ho]
  exact mapUp_all fun _=>⟨hu1 m (by simp [Op.operands]),hu1 x (by simp [Op.operands]),hu1 y (by simp [Op.operands])⟩
 | makeSlice ty l c=>
  rw [ho] at hu1
  have h:=And.intro (hu1 l (by simp [Op.operands])) (hu1 c (by simp [Op.operands]))
  unfold opV;rw [ho];simp only
  unfold makeSlV
  split
  ·simp only
   split
   ·exact .newB fun b g=>fun r hr=>by cases hr;exact h
   ·exact .none'
  ·exact .none'
 | makeInterface t x=>unfold opV;rw [ho];exact .okRes trivial
 | panic x=>unfold opV;rw [ho];exact .okRes trivial
 | _=>unfold opV;rw [ho];exact .none'
theorem opV_ob (hc:obF ρ o=true):(opV U T Φ ρ o).All (optP fun r=>r.ob):=opV_obU (obF_ok hc)
end
end Go.Fer
namespace Go.Fer
open Go.RowKit
section
variable {U:FnTab} {T:Nat→Ty} {Φ:Nat→Option FC} {ρ ρ':Operand→AV} {o:Oper}
theorem boundV_congr {x:Option Operand} (h:∀ y,x=some y→ρ y=ρ' y):boundV ρ x=boundV ρ' x:=by
 cases x with
 | none=>rfl
 | some y=>have:=h y rfl;unfold boundV;simp only [this]
theorem opV_congr (h:∀ x∈o.op.operands.toList,ρ x=ρ' x):opV U T Φ ρ o=opV U T Φ ρ' o:=by
 cases ho:o.op with
 | move x=>rw [ho] at h;have h1:=h x (by simp [Op.operands]);unfold opV;rw [ho];simp only [h1]
 | assign x=>rw [ho] at h;have h1:=h x (by simp [Op.operands]);unfold opV;rw [ho];simp only [h1]
 | pick c a b=>
  rw [ho] at h
  have h1:=h c (by simp [Op.operands]);have h2:=h a (by simp [Op.operands]);have h3:=h b (by simp [Op.operands])
  unfold opV;rw [ho];simp only [h1,h2,h3]
 | binOp op ty x y t=>
  rw [ho] at h
  have h1:=h x (by simp [Op.operands]);have h2:=h y (by simp [Op.operands])
  unfold opV;rw [ho];simp only [h1,h2]
 | unOp op t x=>rw [ho] at h;have h1:=h x (by simp [Op.operands]);unfold opV;rw [ho];simp only [h1]
 | extract x i=>rw [ho] at h;have h1:=h x (by simp [Op.operands]);unfold opV;rw [ho];simp only [h1]
 | nilCheck x=>rw [ho] at h;have h1:=h x (by simp [Op.operands]);unfold opV;rw [ho];simp only [h1]
 | fieldAddr ty x f=>rw [ho] at h;have h1:=h x (by simp [Op.operands]);unfold opV;rw [ho];simp only [h1]
 | field ty x f=>rw [ho] at h;have h1:=h x (by simp [Op.operands]);unfold opV;rw [ho];simp only [h1]
 | load ty x=>rw [ho] at h;have h1:=h x (by simp [Op.operands]);unfold opV;rw [ho];simp only [h1]
 | store ty x y=>
  rw [ho] at h
  have h1:=h x (by simp [Op.operands]);have h2:=h y (by simp [Op.operands])
  unfold opV;rw [ho];simp only [h1,h2]
 | alloc ty=>unfold opV;rw [ho]
 | box ty x=>rw [ho] at h;have h1:=h x (by simp [Op.operands]);unfold opV;rw [ho];simp only [h1]
 | build ty ps=>
  rw [ho] at h
  have h1:ps.toList.map (fun p=>(p.1,ρ p.2))=ps.toList.map (fun p=>(p.1,ρ' p.2)):=List.map_congr_left fun p hp=>by rw [h p.2 (by simp only [Op.operands,List.mem_map];exact ⟨p,hp,rfl⟩)]
  unfold opV;rw [ho];simp only [h1]
 | buildSlice ty n ps=>
  rw [ho] at h
  have h1:ps.toList.map (fun p=>(p.1,ρ p.2))=ps.toList.map (fun p=>(p.1,ρ' p.2)):=List.map_congr_left fun p hp=>by rw [h p.2 (by simp only [Op.operands,List.mem_map];exact ⟨p,hp,rfl⟩)]
  unfold opV;rw [ho];simp only [h1]
 | indexAddr ty x i=>
  rw [ho] at h
  have h1:=h x (by simp [Op.operands]);have h2:=h i (by simp [Op.operands])
  unfold opV;rw [ho];simp only [h1,h2]
 | index ty x i=>
  rw [ho] at h
  have h1:=h x (by simp [Op.operands]);have h2:=h i (by simp [Op.operands])
  unfold opV;rw [ho];simp only [h1,h2]
 | convert a b x=>rw [ho] at h;have h1:=h x (by simp [Op.operands]);unfold opV;rw [ho];simp only [h1]
 | makeFunc fn first caps=>
  rw [ho] at h
  have h1:caps.toList.map ρ=caps.toList.map ρ':=List.map_congr_left fun p hp=>h p (by simp [Op.operands];simp_all)
  have h2:first.toList.map ρ=first.toList.map ρ':=List.map_congr_left fun p hp=>h p (by simp [Op.operands];simp_all)
  unfold opV;rw [ho];simp only [h1,h2]
 | lookup ty m x ok=>
  rw [ho] at h
  have h1:=h m (by simp [Op.operands]);have h2:=h x (by simp [Op.operands])
  unfold opV;rw [ho];simp only [lookOpV,h1,h2]
 | mapUpdate ty m x y=>
  rw [ho] at h
  have h1:=h m (by simp [Op.operands]);have h2:=h x (by simp [Op.operands]);have h3:=h y (by simp [Op.operands])
  unfold opV;rw [ho];simp only [mapUpV,h1,h2,h3]
 | insert ty m x y=>
  rw [ho] at h
  have h1:=h m (by simp [Op.operands]);have h2:=h x (by simp [Op.operands]);have h3:=h y (by simp [Op.operands])
  unfold opV;rw [ho];simp only [mapUpV,h1,h2,h3]
 | makeSlice ty l c=>
  rw [ho] at h
  have h1:=h l (by simp [Op.operands]);have h2:=h c (by simp [Op.operands])
  unfold opV;rw [ho];simp only [makeSlV,h1,h2]
 | slice ty x lo hi mx=>
  rw [ho] at h
  have h1:=h x (by simp [Op.operands])
  have h2:boundV ρ lo=boundV ρ' lo:=boundV_congr fun y hy=>h y (by subst hy;simp [Op.operands])
  have h3:boundV ρ hi=boundV ρ' hi:=boundV_congr fun y hy=>h y (by subst hy;simp [Op.operands])
  have h4:boundV ρ mx=boundV ρ' mx:=boundV_congr fun y hy=>h y (by subst hy;simp [Op.operands])
  unfold opV;rw [ho];simp only [sliceOpV,slice3OpV,h1,h2,h3,h4]
 | call c=>
  rw [ho] at h
  obtain ⟨callee,args,tys⟩:=c
  have hargs:∀ x∈args.toList,ρ x=ρ' x:=fun x hx=>h x (by simp [Op.operands,Call.operands];simp_all)
  have hl:args.toList.map ρ=args.toList.map ρ':=List.map_congr_left hargs
  unfold opV;rw [ho];simp only
  unfold callV
  simp only
  split
  ·split
   ·unfold lenOpV
    split
    ·rename_i x t e1 e2
     rw [hargs x (by simp [e1])]
    ·rfl
   ·have hsame:appSame ρ args.toList=appSame ρ' args.toList:=by
     unfold appSame
     split
     ·rename_i x y e1
      rw [hargs x (by simp [e1]),hargs y (by simp [e1])]
     ·rfl
    rw [hsame]
    split
    ·unfold appInV
     split
     ·rename_i x y t u e1 e2
      rw [hargs x (by simp [e1]),hargs y (by simp [e1])]
     ·rfl
    ·unfold appendOpV
     split
     ·rename_i x y t u e1 e2
      rw [hargs x (by simp [e1]),hargs y (by simp [e1])]
     ·rfl
   ·unfold clearOpV
    split
    ·rename_i x t e1 e2
     rw [hargs x (by simp [e1])]
    ·rfl
   ·unfold copyOpV
    split
    ·rename_i x y t u e1 e2
     rw [hargs x (by simp [e1]),hargs y (by simp [e1])]
    ·rfl
   ·unfold minMaxV
    split
    ·rename_i x y e1
     rw [hargs x (by simp [e1]),hargs y (by simp [e1])]
    ·rename_i x y z e1
     rw [hargs x (by simp [e1]),hargs y (by simp [e1]),hargs z (by simp [e1])]
    ·rfl
   ·unfold minMaxV
    split
    ·rename_i x y e1
     rw [hargs x (by simp [e1]),hargs y (by simp [e1])]
    ·rename_i x y z e1
     rw [hargs x (by simp [e1]),hargs y (by simp [e1]),hargs z (by simp [e1])]
    ·rfl
   ·unfold capOpV
    split
    ·rename_i x t e1 e2
     rw [hargs x (by simp [e1])]
    ·rfl
   ·rfl
  ·split
   ·unfold callFV
    simp only [hl]
   ·rfl
  ·rfl
 | _=>unfold opV;rw [ho]
end
end Go.Fer
namespace Go.Fer
open Go.RowKit
def bw (want b:Bool):Bool:=match want with | true=>b | false=>!b
def guardV (s:Nat→AV) (ops:Array Oper):Option (Nat×Bool)→Option (Option Bool)
 | none=>some none
 | some (j,want)=>match ops[j]? with
  | some o=>match o.dst with
   | some d=>match s d with
    | .val .bool b=>some (some (bw want b))
    | .whn g (.val .bool b)=>some (some (g&&bw want b))
    | _=>none
   | none=>none
  | none=>none
def guardSlot (ops:Array Oper):Option (Nat×Bool)→List Nat
 | none=>[]
 | some (j,_)=>match ops[j]? with
  | some o=>o.dst.toList
  | none=>[]
def tmpsOf (l:List Operand):List Nat:=l.filterMap fun | .tmp t=>some t | _=>none
def slotsOf (ops:Array Oper) (o:Oper):List Nat:=guardSlot ops o.guard++tmpsOf o.op.operands.toList
structure SR where
 cs:List Prop
 dst:Option Nat
 dv:AV
 wb:List (Nat×ABlk)
 rs:List Nat
 rb:List Nat
def SR.upd (r:SR) (s:AState):AState:=(s.setBs r.wb).set r.dst r.dv
def SR.ws (r:SR):List Nat:=r.dst.toList
def SR.wk (r:SR):List Nat:=r.wb.map (·.1)
def condsU (q1 q2:Bool) (ob c:Prop):List Prop:=(match q1 with | true=>[] | false=>[ob])++(match q2 with | true=>[] | false=>[c])
def stepS (U:FnTab) (T:Nat→Ty) (Φ:Nat→Option FC) (ops:Array Oper) (s:AState) (o:Oper):Option SR:=
 match guardV s.slot ops o.guard with
 | none=>none
 | some g=>match (opV U T Φ (opAV U s.slot) o).run s.blk with
  | none=>none
  | some res=>match g with
   | none=>some ⟨condsU (obF (opAV U s.slot) o) (cF (opAV U s.slot) o) res.ob res.c,o.dst,res.dv,res.wb,slotsOf ops o,(opV U T Φ (opAV U s.slot) o).looks s.blk⟩
   | some b=>match res.wb with
    | []=>some ⟨condsU (obF (opAV U s.slot) o&&(cF (opAV U s.slot) o&&!res.dv.isWhn)) true (b=true→res.ob∧(res.c∧(use res.dv).1)) True,o.dst,.whn b (use res.dv).2,[],slotsOf ops o,(opV U T Φ (opAV U s.slot) o).looks s.blk⟩
    | _=>none
def steps (U:FnTab) (T:Nat→Ty) (Φ:Nat→Option FC) (ops:Array Oper):List Oper→AState→Option (List SR×AState)
 | [],s=>some ([],s)
 | o::os,s=>match stepS U T Φ ops s o with
  | none=>none
  | some r=>match steps U T Φ ops os (r.upd s) with
   | none=>none
   | some (l,s')=>some (r::l,s')
def disj (a b:List Nat):Bool:=a.all fun x=>!b.contains x
def SR.apart (a b:SR):Bool:=disj a.ws (b.rs++b.ws)&&disj a.rs b.ws&&disj a.wk (b.rb++b.wk)&&disj a.rb b.wk
def direct (o:Oper):List Nat:=o.after.toList.filterMap fun e=>if Region.binds .any e then some e.on else none
def onceL (acc:List Nat):List Nat→List Nat
 | []=>acc
 | x::l=>match acc.contains x with | true=>onceL acc l | false=>onceL (x::acc) l
theorem mem_onceL {x:Nat}:∀ {l acc:List Nat},x∈onceL acc l→x∈acc∨x∈l
 | [],acc,h=>.inl h
 | y::l,acc,h=>by
  unfold onceL at h
  split at h
  ·exact (mem_onceL h).imp_right (List.mem_cons_of_mem _)
  ·rcases mem_onceL h with h | h
   ·rcases List.mem_cons.1 h with h | h
    ·exact .inr (h ▸ List.mem_cons_self)
    ·exact .inl h
   ·exact .inr (List.mem_cons_of_mem _ h)
def closeL (acc:List (List Nat)) (o:Oper):List (List Nat):=acc++[onceL [] ((direct o).flatMap fun j=>j::acc.getD j [])]
def closure (ops:List Oper):List (List Nat):=ops.foldl closeL []
def pairsOk (cl:List (List Nat)) (l:List SR):Bool:=
 (List.range l.length).all fun j=>(List.range j).all fun i=>match l[i]?,l[j]? with
  | some a,some b=>(cl.getD j []).contains i||a.apart b
  | _,_=>false
def edgesOk (ops:List Oper):Bool:=(List.range ops.length).all fun j=>match ops[j]? with
 | some o=>(direct o).all fun i=>decide (i<j)
 | none=>false
def drawOk (ops:List Oper) (l:List SR):Bool:=edgesOk ops&&pairsOk (closure ops) l
def AgS (R:List Nat) (s s':AState):Prop:=∀ t∈R,s.slot t=s'.slot t
def AgB (B:List Nat) (s s':AState):Prop:=∀ b∈B,s.blk b=s'.blk b
theorem disj_spec {a b:List Nat} (h:disj a b=true) {x:Nat} (hx:x∈a):x ∉ b:=by
 have:=List.all_eq_true.1 h x hx
 simpa using this
theorem setBs_slot (s:AState):∀ (l:List (Nat×ABlk)),(s.setBs l).slot=s.slot:=by
 intro l
 induction l generalizing s with
 | nil=>rfl
 | cons p l ih=>simp only [AState.setBs];rw [ih];rfl
theorem setBs_blk_not {b:Nat}:∀ (l:List (Nat×ABlk)) (s:AState),b ∉ l.map (·.1)→(s.setBs l).blk b=s.blk b:=by
 intro l
 induction l with
 | nil=>intro s _;rfl
 | cons p l ih=>
  intro s h
  simp only [List.map_cons,List.mem_cons,not_or] at h
  simp only [AState.setBs]
  rw [ih _ h.2]
  simp [AState.setB,h.1]
theorem setBs_blk_in {b:Nat}:∀ (l:List (Nat×ABlk)) (s s':AState),b∈l.map (·.1)→(s.setBs l).blk b=(s'.setBs l).blk b:=by
 intro l
 induction l with
 | nil=>intro s s' h;cases h
 | cons p l ih=>
  intro s s' h
  simp only [AState.setBs]
  by_cases hb:b∈l.map (·.1)
  ·exact ih _ _ hb
  ·rw [setBs_blk_not l _ hb,setBs_blk_not l _ hb]
   have:b=p.1:=by simpa [hb] using h
   simp [AState.setB,this]
theorem set_blk (s:AState) (d:Option Nat) (v:AV):(s.set d v).blk=s.blk:=by cases d<;>rfl
theorem upd_slot (r:SR) (s:AState) (t:Nat):(r.upd s).slot t=if t∈r.ws then r.dv else s.slot t:=by
 unfold SR.upd SR.ws
 cases h:r.dst with
 | none=>simp [AState.set,setBs_slot]
 | some d=>simp [AState.set,setBs_slot,eq_comm]
theorem upd_blk (r:SR) (s:AState) (b:Nat):(r.upd s).blk b=(s.setBs r.wb).blk b:=by unfold SR.upd;rw [set_blk]
theorem upd_slot_not {r:SR} {s:AState} {t:Nat} (h:t ∉ r.ws):(r.upd s).slot t=s.slot t:=by rw [upd_slot,if_neg h]
theorem upd_blk_not {r:SR} {s:AState} {b:Nat} (h:b ∉ r.wk):(r.upd s).blk b=s.blk b:=by rw [upd_blk];exact setBs_blk_not _ _ h
theorem AState.ext' {s s':AState} (h1:∀ t,s.slot t=s'.slot t) (h2:∀ b,s.blk b=s'.blk b):s=s':=by
 obtain ⟨a,b⟩:=s
 obtain ⟨a',b'⟩:=s'
 rw [show a=a' from funext h1,show b=b' from funext h2]
theorem upd_comm {a b:SR} (h1:∀ t∈a.ws,t ∉ b.ws) (h2:∀ x∈a.wk,x ∉ b.wk) (s:AState):a.upd (b.upd s)=b.upd (a.upd s):=by
 apply AState.ext'
 ·intro t
  simp only [upd_slot]
  by_cases ha:t∈a.ws
  ·rw [if_pos ha,if_neg (h1 t ha),if_pos ha]
  ·by_cases hb:t∈b.ws
   ·rw [if_neg ha,if_pos hb,if_pos hb]
   ·rw [if_neg ha,if_neg hb,if_neg hb,if_neg ha]
 ·intro x
  by_cases ha:x∈a.wk
  ·have hb:=h2 x ha
   rw [upd_blk_not hb,upd_blk,upd_blk]
   exact setBs_blk_in _ _ _ ha
  ·rw [upd_blk_not ha]
   by_cases hb:x∈b.wk
   ·rw [upd_blk,upd_blk]
    exact setBs_blk_in _ _ _ hb
   ·rw [upd_blk_not hb,upd_blk_not hb,upd_blk_not ha]
def fold (l:List SR) (s:AState):AState:=l.foldl (fun s r=>r.upd s) s
theorem fold_same {R B:List Nat}:∀ (l:List SR) (s:AState),(∀ r∈l,(∀ t∈R,t ∉ r.ws)∧∀ b∈B,b ∉ r.wk)→AgS R (fold l s) s∧AgB B (fold l s) s:=by
 intro l
 induction l with
 | nil=>intro s _;exact ⟨fun _ _=>rfl,fun _ _=>rfl⟩
 | cons r l ih=>
  intro s h
  obtain ⟨h1,h2⟩:=ih (r.upd s) fun r' hr'=>h r' (List.mem_cons_of_mem _ hr')
  have hr:=h r (List.mem_cons_self)
  exact ⟨fun t ht=>(h1 t ht).trans (upd_slot_not (hr.1 t ht)),fun b hb=>(h2 b hb).trans (upd_blk_not (hr.2 b hb))⟩
theorem upd_ag {R B:List Nat} {r:SR} {s s':AState} (h1:AgS R s s') (h2:AgB B s s'):AgS R (r.upd s) (r.upd s')∧AgB B (r.upd s) (r.upd s'):=by
 refine ⟨fun t ht=>?_,fun b hb=>?_⟩
 ·rw [upd_slot,upd_slot]
  split
  ·rfl
  ·exact h1 t ht
 ·by_cases hw:b∈r.wk
  ·rw [upd_blk,upd_blk];exact setBs_blk_in _ _ _ hw
  ·rw [upd_blk_not hw,upd_blk_not hw];exact h2 b hb
theorem fold_sub {R B:List Nat} (p:Nat×SR→Bool):∀ (l:List (Nat×SR)) (s s':AState),AgS R s s'→AgB B s s'→(∀ r∈l,p r=false→(∀ t∈R,t ∉ r.2.ws)∧∀ b∈B,b ∉ r.2.wk)→
  AgS R (fold ((l.filter p).map (·.2)) s) (fold (l.map (·.2)) s')∧AgB B (fold ((l.filter p).map (·.2)) s) (fold (l.map (·.2)) s'):=by
 intro l
 induction l with
 | nil=>intro s s' h1 h2 _;exact ⟨h1,h2⟩
 | cons r l ih=>
  intro s s' h1 h2 h
  have hl:=fun r' hr'=>h r' (List.mem_cons_of_mem _ hr')
  cases hp:p r with
  | true=>
   rw [List.filter_cons_of_pos hp]
   obtain ⟨k1,k2⟩:=upd_ag (r:=r.2) h1 h2
   exact ih _ _ k1 k2 hl
  | false=>
   rw [List.filter_cons_of_neg (by simp [hp])]
   have hr:=h r (List.mem_cons_self) hp
   exact ih _ _ (fun t ht=>(h1 t ht).trans (upd_slot_not (hr.1 t ht)).symm) (fun b hb=>(h2 b hb).trans (upd_blk_not (hr.2 b hb)).symm) hl
theorem fold_comm {r:SR}:∀ (l:List SR) (s:AState),(∀ x∈l,(∀ t∈r.ws,t ∉ x.ws)∧∀ b∈r.wk,b ∉ x.wk)→fold l (r.upd s)=r.upd (fold l s):=by
 intro l
 induction l with
 | nil=>intro s _;rfl
 | cons x l ih=>
  intro s h
  have hx:=h x (List.mem_cons_self)
  show fold l (x.upd (r.upd s))=r.upd (fold l (x.upd s))
  rw [←upd_comm hx.1 hx.2 s]
  exact ih _ fun y hy=>h y (List.mem_cons_of_mem _ hy)
end Go.Fer
namespace Go.Fer
open Go.RowKit
def enum:Nat→List SR→List (Nat×SR)
 | _,[]=>[]
 | n,r::l=>(n,r)::enum (n+1) l
theorem enum_append:∀ (l m:List SR) (n:Nat),enum n (l++m)=enum n l++enum (n+l.length) m
 | [],m,n=>by simp [enum]
 | r::l,m,n=>by simp only [List.cons_append,enum,enum_append l m (n+1),List.length_cons];rw [show n+1+l.length=n+(l.length+1) by omega]
theorem enum_map:∀ (l:List SR) (n:Nat),(enum n l).map (·.2)=l
 | [],_=>rfl
 | r::l,n=>by simp only [enum,List.map_cons,enum_map l (n+1)]
theorem enum_mem:∀ {l:List SR} {n j:Nat} {x:SR},(j,x)∈enum n l→n≤j∧l[j - n]?=some x
 | r::l,n,j,x,h=>by
  simp only [enum,List.mem_cons,Prod.mk.injEq] at h
  rcases h with ⟨rfl,rfl⟩ | h
  ·simp
  ·obtain ⟨h1,h2⟩:=enum_mem h
   refine ⟨by omega,?_⟩
   rw [show j - n=(j - (n+1))+1 by omega]
   simpa using h2
 | [],_,_,_,h=>by cases h
def stA (l:List SR) (s:AState) (f:Nat→Bool):AState:=fold (((enum 0 l).filter fun p=>f p.1).map (·.2)) s
theorem fold_append (l m:List SR) (s:AState):fold (l++m) s=fold m (fold l s):=by simp [fold]
theorem apart_spec {a b:SR} (h:a.apart b=true):(∀ t∈a.ws,t ∉ b.rs∧t ∉ b.ws)∧(∀ t∈a.rs,t ∉ b.ws)∧(∀ x∈a.wk,x ∉ b.rb∧x ∉ b.wk)∧∀ x∈a.rb,x ∉ b.wk:=by
 simp only [SR.apart,Bool.and_eq_true] at h
 obtain ⟨⟨⟨h1,h2⟩,h3⟩,h4⟩:=h
 refine ⟨fun t ht=>?_,fun t ht=>disj_spec h2 ht,fun x hx=>?_,fun x hx=>disj_spec h4 hx⟩
 ·have:=disj_spec h1 ht;simpa using this
 ·have:=disj_spec h3 hx;simpa using this
theorem stA_step {l:List SR} {s:AState} {f:Nat→Bool} {i:Nat} {r:SR} (hi:l[i]?=some r) (hf:f i=false)
  (hpre:∀ j x,j<i→l[j]?=some x→f j=false→x.apart r=true) (hpost:∀ j x,i<j→l[j]?=some x→f j=true→r.apart x=true) :
  AgS r.rs (stA l s f) (fold (l.take i) s)∧AgB r.rb (stA l s f) (fold (l.take i) s)∧stA l s (fun j=>if j=i then true else f j)=r.upd (stA l s f):=by
 obtain ⟨hlt,hget⟩:=List.getElem?_eq_some_iff.1 hi
 have hlen:(l.take i).length=i:=by simp;omega
 have hsplit:enum 0 l=enum 0 (l.take i)++(i,r)::enum (i+1) (l.drop (i+1)):=by
  have h1:l=l.take i++r::l.drop (i+1):=by
   have:=List.take_append_drop i l
   rw [List.drop_eq_getElem_cons hlt,hget] at this
   exact this.symm
  have h2:=enum_append (l.take i) (r::l.drop (i+1)) 0
  rw [←h1,hlen] at h2
  simpa [enum] using h2
 have hpreI:∀ p∈enum 0 (l.take i),p.1<i∧l[p.1]?=some p.2:=by
  rintro ⟨j,x⟩ hp
  obtain ⟨_,h2⟩:=enum_mem hp
  rw [Nat.sub_zero,List.getElem?_take] at h2
  split at h2
  ·rename_i hj;exact ⟨hj,h2⟩
  ·cases h2
 have hpostI:∀ p∈enum (i+1) (l.drop (i+1)),i<p.1∧l[p.1]?=some p.2:=by
  rintro ⟨j,x⟩ hp
  obtain ⟨h1,h2⟩:=enum_mem hp
  rw [List.getElem?_drop,show i+1+(j - (i+1))=j by omega] at h2
  exact ⟨h1,h2⟩
 have htail:∀ x∈((enum (i+1) (l.drop (i+1))).filter fun p=>f p.1).map (·.2),r.apart x=true:=by
  intro x hx
  simp only [List.mem_map,List.mem_filter] at hx
  obtain ⟨p,⟨hp,hfp⟩,rfl⟩:=hx
  obtain ⟨h1,h2⟩:=hpostI p hp
  exact hpost p.1 p.2 h1 h2 hfp
 have hA:stA l s f=fold (((enum (i+1) (l.drop (i+1))).filter fun p=>f p.1).map (·.2)) (fold (((enum 0 (l.take i)).filter fun p=>f p.1).map (·.2)) s):=by
  unfold stA
  rw [hsplit,List.filter_append,List.filter_cons_of_neg (by simp [hf]),List.map_append,fold_append]
 have hsame:=fold_same (R:=r.rs) (B:=r.rb) (((enum (i+1) (l.drop (i+1))).filter fun p=>f p.1).map (·.2)) (fold (((enum 0 (l.take i)).filter fun p=>f p.1).map (·.2)) s)
  (fun x hx=>by
   have:=apart_spec (htail x hx)
   exact ⟨this.2.1,this.2.2.2⟩)
 have hsub:=fold_sub (R:=r.rs) (B:=r.rb) (fun p=>f p.1) (enum 0 (l.take i)) s s (fun _ _=>rfl) (fun _ _=>rfl) (fun p hp hfp=>by
  obtain ⟨h1,h2⟩:=hpreI p hp
  have:=apart_spec (hpre p.1 p.2 h1 h2 hfp)
  exact ⟨fun t ht hw=>(this.1 t hw).1 ht,fun b hb hw=>(this.2.2.1 b hw).1 hb⟩)
 rw [enum_map] at hsub
 refine ⟨fun t ht=>by rw [hA];exact (hsame.1 t ht).trans (hsub.1 t ht),fun b hb=>by rw [hA];exact (hsame.2 b hb).trans (hsub.2 b hb),?_⟩
 rw [hA]
 unfold stA
 have e1:(enum 0 (l.take i)).filter (fun p=>if p.1=i then true else f p.1)=(enum 0 (l.take i)).filter fun p=>f p.1:=by
  apply List.filter_congr
  intro p hp
  rw [if_neg (by have:=(hpreI p hp).1;omega)]
 have e2:(enum (i+1) (l.drop (i+1))).filter (fun p=>if p.1=i then true else f p.1)=(enum (i+1) (l.drop (i+1))).filter fun p=>f p.1:=by
  apply List.filter_congr
  intro p hp
  rw [if_neg (by have:=(hpostI p hp).1;omega)]
 rw [hsplit,List.filter_append,List.filter_cons_of_pos (by simp),e1,e2,List.map_append,fold_append]
 show fold _ (r.upd _)=_
 refine fold_comm _ _ fun x hx=>?_
 have:=apart_spec (htail x hx)
 exact ⟨fun t ht=>(this.1 t ht).2,fun b hb=>(this.2.2.1 b hb).2⟩
theorem closure_ok {p:Nat→Prop}:∀ (ops:List Oper) (acc:List (List Nat)),(∀ j i,i∈acc.getD j []→p j→p i)→(∀ j o,ops[j]?=some o→∀ i∈direct o,p (acc.length+j)→p i)→
  ∀ j i,i∈(ops.foldl closeL acc).getD j []→p j→p i:=by
 intro ops
 induction ops with
 | nil=>intro acc h _;exact h
 | cons o ops ih=>
  intro acc h hd
  refine ih (closeL acc o) (fun j i hi hj=>?_) fun j o' ho' i hi hj=>hd (j+1) o' (by simpa using ho') i hi (by
   have:(closeL acc o).length=acc.length+1:=by simp [closeL]
   rw [this] at hj
   rw [show acc.length+(j+1)=acc.length+1+j by omega];exact hj)
  unfold closeL at hi
  rw [List.getD_eq_getElem?_getD,List.getElem?_append] at hi
  split at hi
  ·exact h j i (by rw [List.getD_eq_getElem?_getD];exact hi) hj
  ·rename_i hlt
   by_cases e:j=acc.length
   ·subst e
    simp only [Nat.sub_self,List.getElem?_cons_zero,Option.getD_some] at hi
    have hi:=(mem_onceL hi).resolve_left (by simp)
    simp only [List.mem_flatMap,List.mem_cons] at hi
    obtain ⟨k,hk,hi⟩:=hi
    have hpk:=hd 0 o (by simp) k hk (by simpa using hj)
    rcases hi with rfl | hi
    ·exact hpk
    ·exact h k i hi hpk
   ·rw [List.getElem?_eq_none (by simp;omega)] at hi
    cases hi
theorem steps_spec {U:FnTab} {T:Nat→Ty} {Φ:Nat→Option FC} {ops:Array Oper}:∀ (os:List Oper) (s:AState) {l:List SR} {s':AState},steps U T Φ ops os s=some (l,s')→
  l.length=os.length∧s'=fold l s∧∀ i o,os[i]?=some o→∃ r,l[i]?=some r∧stepS U T Φ ops (fold (l.take i) s) o=some r:=by
 intro os
 induction os with
 | nil=>intro s l s' h;cases h;exact ⟨rfl,rfl,fun i o h=>by cases h⟩
 | cons o os ih=>
  intro s l s' h
  simp only [steps] at h
  split at h
  ·cases h
  ·rename_i r hr
   split at h
   ·cases h
   ·rename_i l' s'' hl
    cases h
    obtain ⟨h1,h2,h3⟩:=ih _ hl
    refine ⟨by simp [h1],h2,fun i o' ho'=>?_⟩
    cases i with
    | zero=>
     simp only [List.getElem?_cons_zero,Option.some.injEq] at ho'
     subst ho'
     exact ⟨r,by simp,hr⟩
    | succ i=>
     obtain ⟨r',k1,k2⟩:=h3 i o' (by simpa using ho')
     exact ⟨r',by simpa using k1,k2⟩
theorem guardV_congr {ops:Array Oper} {f f':Nat→AV} {g:Option (Nat×Bool)} (h:∀ t∈guardSlot ops g,f t=f' t):guardV f ops g=guardV f' ops g:=by
 unfold guardV
 cases g with
 | none=>rfl
 | some p=>
  obtain ⟨j,want⟩:=p
  simp only
  cases hj:ops[j]? with
  | none=>rfl
  | some o=>
   simp only
   cases hd:o.dst with
   | none=>rfl
   | some d=>
    simp only
    rw [h d (by simp [guardSlot,hj,hd])]
theorem stepS_congr {U:FnTab} {T:Nat→Ty} {Φ:Nat→Option FC} {ops:Array Oper} {s s':AState} {o:Oper} {r:SR} (h:stepS U T Φ ops s o=some r) (h1:AgS r.rs s' s) (h2:AgB r.rb s' s):stepS U T Φ ops s' o=some r:=by
 have hrs:r.rs=slotsOf ops o∧r.rb=(opV U T Φ (opAV U s.slot) o).looks s.blk:=by
  unfold stepS at h
  split at h
  ·cases h
  ·split at h
   ·cases h
   ·split at h
    ·cases h;exact ⟨rfl,rfl⟩
    ·split at h
     ·cases h;exact ⟨rfl,rfl⟩
     ·cases h
 rw [hrs.1] at h1
 rw [hrs.2] at h2
 have hop:∀ x∈o.op.operands.toList,opAV U s'.slot x=opAV U s.slot x:=by
  intro x hx
  cases x with
  | tmp t=>
   refine h1 t ?_
   simp only [slotsOf,List.mem_append]
   exact .inr (List.mem_filterMap.2 ⟨.tmp t,hx,rfl⟩)
  | _=>rfl
 have e1:guardV s'.slot ops o.guard=guardV s.slot ops o.guard:=guardV_congr fun t ht=>h1 t (by simp [slotsOf,ht])
 have e2:opV U T Φ (opAV U s'.slot) o=opV U T Φ (opAV U s.slot) o:=opV_congr hop
 have e3:=Rd.run_congr (H:=s.blk) (H':=s'.blk) (opV U T Φ (opAV U s.slot) o) h2
 have e4:obF (opAV U s'.slot) o=obF (opAV U s.slot) o:=by
  unfold obF
  have:∀ (l:List Operand),(∀ x∈l,opAV U s'.slot x=opAV U s.slot x)→(l.all fun x=>!(opAV U s'.slot x).isWhn)=l.all fun x=>!(opAV U s.slot x).isWhn:=by
   intro l
   induction l with
   | nil=>intro _;rfl
   | cons x l ih=>intro h;simp only [List.all_cons];rw [h x (by simp),ih fun y hy=>h y (by simp [hy])]
  exact this _ hop
 have e5:cF (opAV U s'.slot) o=cF (opAV U s.slot) o:=by
  unfold cF
  cases ho:o.op with
  | binOp op ty x y t=>
   rw [ho] at hop
   simp only
   rw [hop x (by simp [Op.operands])]
  | call c=>
   obtain ⟨callee,args,tys⟩:=c
   rw [ho] at hop
   cases callee with
   | builtin b=>
    have hh:∀ x∈args.toList,opAV U s'.slot x=opAV U s.slot x:=fun x hx=>hop x (by simp [Op.operands,Call.operands];simp_all)
    simp only
    unfold cFB
    cases b with
    | len=>
     simp only
     split
     ·rename_i x hx
      rw [hh x (by rw [hx];simp)]
     ·rfl
    | _=>rfl
   | _=>rfl
  | _=>rfl
 unfold stepS at h ⊢
 rw [e1,e2,e3.1,e3.2,e4,e5]
 exact h
end Go.Fer
namespace Go.Fer
open Go.RowKit
universe u
def M.fail {β:Type}:M β:=⟨False,fun _=>False⟩
inductive TAV where
 | undef
 | val (t:Ty)
 | pp (t:Ty)
 | loc (b off:Nat)
 | own (b:Nat)
 | sub (b:Nat)
 | mapl (b:Nat)
 | iter (b:Nat)
 | nils
 | clo (k:FuncId) (ls:List (Nat×Nat))
 | tr (A:Ty)
 | yld
 | row (bs:List Nat)
 deriving DecidableEq
inductive TB where
 | cells (t:Ty) (l:List TAV)
 | arr (e:Ty)
 | froz (e:Ty)
 | mp (k v:Ty)
 | frzm (k v:Ty)
 | whole (t:Ty)
 | frzc (t:Ty)
 | it (k v:Ty)
def TAV.cons (t:TAV) (R:Type):Type:=
 match t with
 | .val t=>t.Den×R
 | .pp t=>t.Den×R
 | .sub _=>(Nat×Nat)×R
 | .tr A=>(Nat×(List A.Den→Prop)×List A.Den×Bool)×R
 | .yld=>Nat×R
 | _=>R
def consL:List TAV→Type→Type
 | [],R=>R
 | t::l,R=>t.cons (consL l R)
def TB.cons (t:TB) (R:Type):Type:=
 match t with
 | .cells _ l=>consL l R
 | .arr e=>List e.Den×R
 | .froz e=>List e.Den×R
 | .mp k v=>List (k.Den×v.Den)×R
 | .frzm k v=>List (k.Den×v.Den)×R
 | .whole t=>t.Den×R
 | .frzc t=>t.Den×R
 | .it k v=>(Option (k.Den×v.Den)×List (k.Den×v.Den))×R
def TB.isOwn:TB→Bool
 | .cells _ _ | .arr _ | .mp _ _ | .whole _ | .it _ _=>true
 | _=>false
def TB.kin (t u:TB):Bool:=
 match t,u with
 | .cells _ _,.cells _ _ | .cells _ _,.whole _ | .whole _,.cells _ _ | .whole _,.whole _ | .frzc _,.cells _ _ | .frzc _,.whole _=>true
 | .mp _ _,.mp _ _ | .frzm _ _,.mp _ _=>true
 | .arr e,.arr e'=>decide (e=e')
 | .froz _,.arr _=>true
 | _,_=>false
structure Shape where
 slots:List (Nat×TAV)
 blks:List (Nat×TB)
def blkDen:List (Nat×TB)→Type
 | []=>Unit
 | p::l=>p.2.cons (blkDen l)
def slotDen:List (Nat×TAV)→Type→Type
 | [],R=>R
 | p::l,R=>p.2.cons (slotDen l R)
def Shape.Den (sh:Shape):Type:=slotDen sh.slots (blkDen sh.blks)
def cloCaps (g:Nat→Nat×Nat) (ls:List (Nat×Nat)):Nat→AV:=nthAV (ls.map fun p=>.loc (g p.1).1 (g p.1).2 p.2)
def rowAV (g:Nat→Nat×Nat) (bs:List Nat):Nat→AV:=nthAV (bs.map fun b=>.own (g b).1 (g b).2)
def TAV.av (g:Nat→Nat×Nat) (t:TAV) {R:Type} (x:t.cons R):AV×R:=
 match t,x with
 | .undef,x=>(.undef,x)
 | .val t,x=>(.val t x.1,x.2)
 | .pp t,x=>(.pp t x.1,x.2)
 | .loc b off,x=>(.loc (g b).1 (g b).2 off,x)
 | .own b,x=>(.own (g b).1 (g b).2,x)
 | .sub b,x=>(.sub (g b).1 (g b).2 x.1.1 x.1.2,x.2)
 | .mapl b,x=>(.mapl (g b).1 (g b).2,x)
 | .iter b,x=>(.iter (g b).1 (g b).2,x)
 | .nils,x=>(.nils,x)
 | .clo k ls,x=>(.clo k ls.length (cloCaps g ls),x)
 | .tr A,x=>(.tr x.1.1 A x.1.2.1 x.1.2.2.1 x.1.2.2.2,x.2)
 | .yld,x=>(.yld x.1,x.2)
 | .row bs,x=>(.agg bs.length (rowAV g bs),x)
def avL (g:Nat→Nat×Nat):(l:List TAV)→{R:Type}→consL l R→List AV×R
 | [],_,x=>([],x)
 | t::l,_,x=>let (a,y):=t.av g x;let (as,z):=avL g l y;(a::as,z)
def TB.body (g:Nat→Nat×Nat) (t:TB) {R:Type} (x:t.cons R):Body×R:=
 match t,x with
 | .cells t l,x=>let (as,y):=avL g l x;(.cells t (nthAV as),y)
 | .arr e,x=>(.arr e x.1,x.2)
 | .froz e,x=>(.froz e x.1,x.2)
 | .mp k v,x=>(.mp k v x.1,x.2)
 | .frzm k v,x=>(.frzm k v x.1,x.2)
 | .whole t,x=>(.cells t (nthAV (leafs t x.1)),x.2)
 | .frzc t,x=>(.frzc t x.1,x.2)
 | .it k v,x=>(.it k v x.1.1 x.1.2,x.2)
def slotsL (g:Nat→Nat×Nat):(l:List (Nat×TAV))→{R:Type}→slotDen l R→List (Nat×AV)×R
 | [],_,x=>([],x)
 | p::l,_,x=>let (a,y):=p.2.av g x;let (as,z):=slotsL g l y;((p.1,a)::as,z)
def blksL (g:Nat→Nat×Nat):(l:List (Nat×TB))→blkDen l→List (Nat×Body)
 | [],_=>[]
 | p::l,x=>let (a,y):=p.2.body g x;(p.1,a)::blksL g l y
def look:List (Nat×AV)→Nat→AV
 | [],_=>.undef
 | p::l,i=>if i=p.1 then p.2 else look l i
def lookB:List (Nat×Body)→Nat→ABlk
 | [],_=>⟨0,.dead⟩
 | p::l,i=>if i=p.1 then ⟨0,p.2⟩ else lookB l i
def mkSt (ss:List (Nat×AV)) (bs:List (Nat×Body)):AState:=⟨look ss,lookB bs⟩
def gId (b:Nat):Nat×Nat:=(b,0)
def Shape.st (sh:Shape) (σ:sh.Den):AState:=
 mkSt (slotsL gId sh.slots σ).1 (blksL gId sh.blks (slotsL gId sh.slots σ).2)
def rdVal (H:Nat→ABlk) (t:Ty) (av:AV) {R:Type} (r:Option (R×List Nat)):Option ((t.Den×R)×List Nat):=
 match (asDen t av).run H with
 | some (x,l)=>match r with
  | some (y,m)=>some ((x,y),l++m)
  | none=>none
 | none=>none
def rdPp (t:Ty) (av:AV) {R:Type} (r:Option (R×List Nat)):Option ((t.Den×R)×List Nat):=
 match av with
 | .pp t' x=>match r with
  | some (y,m)=>if h:t'=t then some ((h ▸ x,y),m) else none
  | none=>none
 | _=>none
def rdSub (H:Nat→ABlk) (b:Nat) (av:AV) {R:Type} (r:Option (R×List Nat)):Option (((Nat×Nat)×R)×List Nat):=
 match r with
 | some (y,m)=>match av with
  | .own b' g=>if (b' == b&&g == (H b).gen&&(H b).body.isArr)=true then some (((0,(H b).body.len),y),m) else none
  | .sub b' g lo hi=>if (b' == b&&g == (H b).gen)=true then some (((lo,hi),y),m) else none
  | _=>none
 | none=>none
def rdTr (A:Ty) (av:AV) {R:Type} (r:Option (R×List Nat)):Option (((Nat×(List A.Den→Prop)×List A.Den×Bool)×R)×List Nat):=
 match av with
 | .tr l A' L n st=>match r with
  | some (y,m)=>if h:A'=A then some (((l,h ▸ L,h ▸ n,st),y),m) else none
  | none=>none
 | _=>none
def rdYld (av:AV) {R:Type} (r:Option (R×List Nat)):Option ((Nat×R)×List Nat):=
 match av with
 | .yld l=>match r with
  | some (y,m)=>some ((l,y),m)
  | none=>none
 | _=>none
def okLoc (H:Nat→ABlk) (b off:Nat) (av:AV):Bool:=
 match av with
 | .loc b' g off'=>b' == b&&off' == off&&g == (H b).gen
 | _=>false
def okOwn (H:Nat→ABlk) (b:Nat) (av:AV):Bool:=
 match av with
 | .own b' g=>b' == b&&g == (H b).gen
 | _=>false
def okMapl (H:Nat→ABlk) (b:Nat) (av:AV):Bool:=
 match av with
 | .mapl b' g=>b' == b&&g == (H b).gen
 | _=>false
def okIter (H:Nat→ABlk) (b:Nat) (av:AV):Bool:=
 match av with
 | .iter b' g=>b' == b&&g == (H b).gen
 | _=>false
def okNils (av:AV):Bool:=
 match av with
 | .nils=>true
 | _=>false
def okClo (H:Nat→ABlk) (f:Nat→Nat) (k:FuncId) (ls:List (Nat×Nat)) (av:AV):Bool:=
 match av with
 | .clo k' n caps=>k' == k&&n == ls.length&&(List.range n).all fun i=>match ls[i]? with
  | some p=>okLoc H (f p.1) p.2 (caps i)
  | none=>false
 | _=>false
def okRow (H:Nat→ABlk) (f:Nat→Nat) (bs:List Nat) (av:AV):Bool:=
 match av with
 | .agg n h=>n == bs.length&&(List.range n).all fun i=>match bs[i]? with
  | some b=>okOwn H (f b) (h i)
  | none=>false
 | _=>false
def ifB {α:Type} (b:Bool) (r:Option α):Option α:=match b with | true=>r | false=>none
def TAV.rd (H:Nat→ABlk) (f:Nat→Nat) (t:TAV) (av:AV) {R:Type} (r:Option (R×List Nat)):Option (t.cons R×List Nat):=
 match t with
 | .undef=>r
 | .val t=>rdVal H t av r
 | .pp t=>rdPp t av r
 | .loc b off=>ifB (okLoc H (f b) off av) r
 | .own b=>ifB (okOwn H (f b) av) r
 | .sub b=>rdSub H (f b) av r
 | .mapl b=>ifB (okMapl H (f b) av) r
 | .iter b=>ifB (okIter H (f b) av) r
 | .nils=>ifB (okNils av) r
 | .clo k ls=>ifB (okClo H f k ls av) r
 | .tr A=>rdTr A av r
 | .yld=>rdYld av r
 | .row bs=>ifB (okRow H f bs av) r
def rdL (H:Nat→ABlk) (f:Nat→Nat):(l:List TAV)→(Nat→AV)→Nat→{R:Type}→Option (R×List Nat)→Option (consL l R×List Nat)
 | [],_,_,_,r=>r
 | t::l,c,i,_,r=>t.rd H f (c i) (rdL H f l c (i+1) r)
def rdCells (H:Nat→ABlk) (f:Nat→Nat) (t:Ty) (l:List TAV) (b:Body) {R:Type} (r:Option (R×List Nat)):Option (consL l R×List Nat):=
 match b with
 | .cells t' c=>if t'=t∧t.size=l.length then rdL H f l c 0 r else none
 | _=>none
def rdArr (e:Ty) (b:Body) {R:Type} (r:Option (R×List Nat)):Option ((List e.Den×R)×List Nat):=
 match b with
 | .arr e' xs=>match r with
  | some (y,m)=>if h:e'=e then some ((h ▸ xs,y),m) else none
  | none=>none
 | _=>none
def rdMp (k v:Ty) (b:Body) {R:Type} (r:Option (R×List Nat)):Option ((List (k.Den×v.Den)×R)×List Nat):=
 match b with
 | .mp k' v' es=>match r with
  | some (y,m)=>if h:k'=k∧v'=v then some ((h.1 ▸ h.2 ▸ es,y),m) else none
  | none=>none
 | _=>none
def rdIt (k v:Ty) (b:Body) {R:Type} (r:Option (R×List Nat)):Option (((Option (k.Den×v.Den)×List (k.Den×v.Den))×R)×List Nat):=
 match b with
 | .it k' v' c es=>match r with
  | some (y,m)=>if h:k'=k∧v'=v then some (((h.1 ▸ h.2 ▸ c,h.1 ▸ h.2 ▸ es),y),m) else none
  | none=>none
 | _=>none
def rdWhole (H:Nat→ABlk) (t:Ty) (b:Body) {R:Type} (r:Option (R×List Nat)):Option ((t.Den×R)×List Nat):=
 match b with
 | .cells t' f=>if t'=t then rdVal H t (.agg t.size f) r else none
 | _=>none
def rdFrzc (H:Nat→ABlk) (t:Ty) (b:Nat) {R:Type} (r:Option (R×List Nat)):Option ((t.Den×R)×List Nat):=
 match (asDen (.ptr t) (.loc b (H b).gen 0)).run H with
 | some (some x,l)=>match r with
  | some (y,m)=>some ((x,y),l++m)
  | none=>none
 | _=>none
def TB.rd (H:Nat→ABlk) (f:Nat→Nat) (t:TB) (b:Nat) {R:Type} (r:Option (R×List Nat)):Option (t.cons R×List Nat):=
 match t with
 | .cells t l=>rdCells H f t l (H b).body r
 | .arr e=>rdArr e (H b).body r
 | .froz e=>rdVal H (.slice e) (.own b (H b).gen) r
 | .mp k v=>rdMp k v (H b).body r
 | .frzm k v=>rdVal H (.map k v) (.mapl b (H b).gen) r
 | .whole t=>rdWhole H t (H b).body r
 | .frzc t=>rdFrzc H t b r
 | .it k v=>rdIt k v (H b).body r
def rdB (H:Nat→ABlk) (f:Nat→Nat):(l:List (Nat×TB))→Option (blkDen l×List Nat)
 | []=>some ((),[])
 | p::l=>p.2.rd H f (f p.1) (rdB H f l)
def rdS (H:Nat→ABlk) (f:Nat→Nat):(l:List (Nat×TAV))→(Nat→AV)→{R:Type}→Option (R×List Nat)→Option (slotDen l R×List Nat)
 | [],_,_,r=>r
 | p::l,c,_,r=>p.2.rd H f (c p.1) (rdS H f l c r)
def Shape.owns (sh:Shape):List Nat:=sh.blks.filterMap fun p=>if p.2.isOwn then some p.1 else none
def Shape.rdF (sh:Shape) (f:Nat→Nat) (s:AState):Option (sh.Den×List Nat):=
 match rdS s.blk f sh.slots s.slot (rdB s.blk f sh.blks) with
 | some (σ,fl)=>if sh.owns.all (fun b=>!fl.contains (f b))=true then some (σ,fl) else none
 | none=>none
def lookT:List (Nat×TB)→Nat→Option TB
 | [],_=>none
 | p::l,b=>if b=p.1 then some p.2 else lookT l b
def nilSlot (bs:List (Nat×TB)) (s:AState) (i b:Nat):AState:=
 match s.slot i,(s.blk b).body,lookT bs b with
 | .nils,.dead,some (.arr e)=>⟨fun j=>if j=i then .own b ((s.blk b).gen+1) else s.slot j,(s.setB b ⟨(s.blk b).gen+1,.arr e []⟩).blk⟩
 | _,_,_=>s
def nilCell (bs:List (Nat×TB)) (s:AState) (c j b:Nat):AState:=
 match (s.blk c).body with
 | .cells t f=>match f j,(s.blk b).body,lookT bs b with
  | .nils,.dead,some (.arr e)=>(s.setB b ⟨(s.blk b).gen+1,.arr e []⟩).setB c ⟨(s.blk c).gen,.cells t fun q=>if q=j then .own b ((s.blk b).gen+1) else f q⟩
  | _,_,_=>s
 | _=>s
def nilSlots (bs:List (Nat×TB)):List (Nat×TAV)→AState→AState
 | [],s=>s
 | p::l,s=>nilSlots bs l (match p.2 with | .own b=>nilSlot bs s p.1 b | _=>s)
def nilCells (bs:List (Nat×TB)) (c:Nat):List TAV→Nat→AState→AState
 | [],_,s=>s
 | t::l,j,s=>nilCells bs c l (j+1) (match t with | .own b=>nilCell bs s c j b | _=>s)
def nilBlks (bs:List (Nat×TB)):List (Nat×TB)→AState→AState
 | [],s=>s
 | p::l,s=>nilBlks bs l (match p.2 with | .cells _ ts=>nilCells bs p.1 ts 0 s | _=>s)
def Shape.nilp (sh:Shape) (s:AState):AState:=nilBlks sh.blks sh.blks (nilSlots sh.blks sh.slots s)
def TB.isRow:TB→Bool
 | .arr _ | .froz _=>true
 | _=>false
def Shape.fresh (sh:Shape) (s:AState):Bool:=sh.blks.all fun p=>!(decide (KEEPB≤p.1)&&p.2.isRow)||decide ((s.blk p.1).gen=0)
def Shape.rd (sh:Shape) (s:AState):Option (sh.Den):=
 match sh.fresh (sh.nilp s) with
 | true=>(sh.rdF (fun b=>b) (sh.nilp s)).map (·.1)
 | false=>none
def Shape.rdM {β:Type} (sh:Shape) (s:AState) (k:sh.Den→M β):M β:=
 match sh.rd s with
 | some σ=>k σ
 | none=>M.fail
def TAV.dfl (t:TAV) {R:Type} (r:R):t.cons R:=
 match t with
 | .val t=>(t.dflt,r)
 | .pp t=>(t.dflt,r)
 | .sub _=>((0,0),r)
 | .tr _=>((0,fun _=>False,[],false),r)
 | .yld=>(0,r)
 | .undef | .loc _ _ | .own _ | .mapl _ | .iter _ | .nils | .clo _ _ | .row _=>r
def dflL:(l:List TAV)→{R:Type}→R→consL l R
 | [],_,r=>r
 | t::l,_,r=>t.dfl (dflL l r)
def TB.dfl (t:TB) {R:Type} (r:R):t.cons R:=
 match t with
 | .cells _ l=>dflL l r
 | .arr _=>([],r)
 | .froz _=>([],r)
 | .mp _ _=>([],r)
 | .frzm _ _=>([],r)
 | .whole t=>(t.dflt,r)
 | .frzc t=>(t.dflt,r)
 | .it _ _=>((none,[]),r)
def dflB:(l:List (Nat×TB))→blkDen l
 | []=>()
 | p::l=>p.2.dfl (dflB l)
def dflS:(l:List (Nat×TAV))→{R:Type}→R→slotDen l R
 | [],_,r=>r
 | p::l,_,r=>p.2.dfl (dflS l r)
def Shape.dfl (sh:Shape):sh.Den:=dflS sh.slots (dflB sh.blks)
structure SC where
 ts:Ty
 tr:Ty
 sh:ts.Den→M tr.Den
 det:Bool
def FC.sc (c:FC):SC:=⟨c.ts,c.tr,c.sh,true⟩
def M.Det {α:Type} (m:M α):Prop:=∀ x y,m.out x→m.out y→x=y
open Classical in
def M.val {α:Type} (m:M α) (d:α):α:=if h:∃ x,m.out x then h.choose else d
def SC.fc (c:SC):FC:=⟨c.ts,c.tr,fun x=>(c.sh x).safe,fun x=>(c.sh x).val c.tr.dflt⟩
structure IOC where
 sin:Shape
 out:Shape
 grp:List (Option Nat)
 nargs:Nat
 sh:sin.Den→M out.Den
structure ITC where
 ts:Ty
 A:Ty
 pre:ts.Den→Prop
 seq:ts.Den→List A.Den
inductive KC where
 | sc (c:SC)
 | io (c:IOC)
 | it (c:ITC)
def dPhi (Φ:Nat→Option FC) (Ψ:Nat→Option KC) (k:Nat):Option FC:=
 match Ψ k with
 | some (.sc c)=>match c.det with
  | true=>some c.fc
  | false=>none
 | some _=>none
 | none=>Φ k
def scOf (Φ:Nat→Option FC) (Ψ:Nat→Option KC) (k:Nat):Option SC:=
 match Ψ k with
 | some (.sc c)=>some c
 | some _=>none
 | none=>(Φ k).map FC.sc
structure PRes where
 α:Type
 d:α
 ob:Prop
 m:M α
 st:α→AState
 gst:Option (Bool→α→AState)
def afterCall (s:AState) (o:Oper) (tr:Ty) (fl:List Nat) (v:AV):AState:=(if tr.pure then s else s.frz fl).set o.dst v
def scI (U:FnTab) (s:AState) (o:Oper) (args:List Operand) (sc:SC):Option PRes:=
 match (asArgs sc.ts ((args.map (opAV U s.slot)).map fun v=>(use v).2)).run s.blk with
 | some (x,fl)=>some ⟨sc.tr.Den,sc.tr.dflt,usesObL (args.map (opAV U s.slot)),sc.sh x,fun y=>afterCall s o sc.tr fl (resV sc.tr y),some fun g y=>afterCall s o sc.tr fl (.whn g (resV sc.tr y))⟩
 | none=>none
def fnI (U:FnTab) (s:AState) (o:Oper) (t:Nat) (args:List Operand):Option PRes:=
 match use (s.slot t) with
 | (ob,.val (.fn a b) f)=>match (asArgs a ((args.map (opAV U s.slot)).map fun v=>(use v).2)).run s.blk with
  | some (x,fl)=>some ⟨b.Den,b.dflt,ob∧usesObL (args.map (opAV U s.slot)),f x,fun y=>afterCall s o b fl (resV b y),some fun g y=>afterCall s o b fl (.whn g (resV b y))⟩
  | none=>none
 | _=>none
def unifT (t:TAV) (av:AV):List (Nat×Nat):=
 match t,av with
 | .loc b' _,.loc b _ _=>[(b',b)]
 | .own b',.own b _=>[(b',b)]
 | .sub b',.own b _=>[(b',b)]
 | .sub b',.sub b _ _ _=>[(b',b)]
 | .mapl b',.mapl b _=>[(b',b)]
 | .iter b',.iter b _=>[(b',b)]
 | .clo _ ls,.clo _ _ caps=>(List.range ls.length).filterMap fun i=>match ls[i]?,caps i with
  | some p,.loc b _ _=>some (p.1,b)
  | _,_=>none
 | _,_=>[]
def unifL:List TAV→(Nat→AV)→Nat→List (Nat×Nat)
 | [],_,_=>[]
 | t::l,c,i=>unifT t (c i)++unifL l c (i+1)
def lookP:List (Nat×Nat)→Nat→Option Nat
 | [],_=>none
 | p::l,b=>if b=p.1 then some p.2 else lookP l b
def unifB (H:Nat→ABlk):List (Nat×TB)→List (Nat×Nat)→List (Nat×Nat)
 | [],m=>m
 | p::l,m=>unifB H l (m++match p.2,lookP m p.1 with
  | .cells _ ts,some b=>(match (H b).body with | .cells _ c=>unifL ts c 0 | _=>[])
  | _,_=>[])
def unifS (sh:Shape) (s:AState):List (Nat×Nat):=unifB s.blk sh.blks (sh.slots.flatMap fun p=>unifT p.2 (s.slot p.1))
def argSt (s:AState) (avs:List AV):AState:=⟨fun i=>if i=TRS then s.slot TRS else if i<avs.length then avs.getD i .undef else .undef,s.blk⟩
def DEADB:Nat:=99999
def outG (s:AState) (d:Nat) (f:Nat→Nat) (ins:List Nat):List (Nat×TB)→Nat→List (Nat×(Nat×Nat))
 | [],_=>[]
 | p::l,j=>(if ins.contains p.1 then (p.1,(f p.1,match p.2 with
   | .cells _ _ | .whole _ | .mp _ _ | .frzc _ | .frzm _ _=>(s.blk (f p.1)).gen
   | .arr _=>if KEEPB≤p.1 then (s.blk (f p.1)).gen else (s.blk (f p.1)).gen+1
   | _=>(s.blk (f p.1)).gen+1)) else (p.1,(50000+10*d+j,(s.blk (50000+10*d+j)).gen+1)))::outG s d f ins l (j+1)
def lookG:List (Nat×(Nat×Nat))→Nat→Nat×Nat
 | [],_=>(DEADB,0)
 | p::l,b=>if b=p.1 then p.2 else lookG l b
def grpAV:List (Option Nat)→(Nat→AV)→Nat→List AV
 | [],_,_=>[]
 | none::l,c,i=>c i::grpAV l c (i+1)
 | some n::l,c,i=>.agg n (fun j=>c (i+j))::grpAV l c (i+n)
def grpRes (l:List AV):AV:=
 match l with
 | [v]=>v
 | l=>.tup l.length (nthAV l)
def ioSt0 (s:AState) (c:IOC) (f:Nat→Nat) (G:List (Nat×(Nat×Nat))) (τ:c.out.Den):AState:=
 ⟨fun i=>if i=TRS then (if c.out.slots.any (fun p=>p.1 == TRS) then look (slotsL (lookG G) c.out.slots τ).1 TRS else if c.sin.slots.any (fun p=>p.1 == TRS) then .undef else s.slot TRS) else s.slot i,fun b=>match G.find? (fun p=>p.2.1 == b) with
  | some p=>⟨p.2.2,(lookB (blksL (lookG G) c.out.blks (slotsL (lookG G) c.out.slots τ).2) p.1).body⟩
  | none=>if (c.sin.owns.map f).contains b then ⟨(s.blk b).gen+1,.dead⟩ else s.blk b⟩
def ioSt (s:AState) (o:Oper) (c:IOC) (f:Nat→Nat) (G:List (Nat×(Nat×Nat))) (τ:c.out.Den):AState:=
 AState.set (ioSt0 s c f G τ) o.dst (grpRes (grpAV c.grp (look (slotsL (lookG G) c.out.slots τ).1) 0))
def nodupB (l:List Nat):Bool:=decide l.Nodup
def ioOk (c:IOC) (f:Nat→Nat) (s2:AState) (G:List (Nat×(Nat×Nat))) (d n:Nat):Bool:=
  decide (d < 4000) && decide (c.out.blks.length ≤ 10) && nodupB (c.sin.blks.map (·.1)) && nodupB (c.sin.blks.map fun p => f p.1) && nodupB (G.map (·.1)) && nodupB (G.map (·.2.1)) && (c.sin.blks.map (·.1)).all (fun b => decide (TMAX ≤ b))
        &&!(G.map (·.2.1)).contains DEADB&&(match (s2.blk DEADB).body with | .dead=>true | _=>false)&&c.out.blks.all (fun p=>c.sin.blks.all fun q=>!(p.1 == q.1&&q.2.isOwn)||p.2.kin q.2)&&(decide (n=c.nargs)&&decide (n≤TMAX))
def ioAvs (U:FnTab) (s:AState) (args:List Operand):List AV:=(args.map (opAV U s.slot)).map fun v=>(use v).2
def ioF (c:IOC) (s1:AState) (b:Nat):Nat:=(lookP (unifS c.sin s1) b).getD DEADB
def ioI (U:FnTab) (s:AState) (o:Oper) (args:List Operand) (c:IOC):Option PRes:=
 match c.sin.rdF (ioF c (argSt s (ioAvs U s args))) (argSt s (ioAvs U s args)) with
 | some (σ,fl)=>match ioOk c (ioF c (argSt s (ioAvs U s args))) (s.frz fl) (outG (s.frz fl) (o.dst.getD 0) (ioF c (argSt s (ioAvs U s args))) c.sin.owns c.out.blks 0) (o.dst.getD 0) args.length with
  | true=>some ⟨c.out.Den,c.out.dfl,usesObL (args.map (opAV U s.slot)),c.sh σ,fun τ=>ioSt (s.frz fl) o c (ioF c (argSt s (ioAvs U s args))) (outG (s.frz fl) (o.dst.getD 0) (ioF c (argSt s (ioAvs U s args))) c.sin.owns c.out.blks 0) τ,none⟩
  | false=>none
 | none=>none
def yldI (U:FnTab) (s:AState) (o:Oper) (t:Nat) (args:List Operand):Option PRes:=
 match s.slot t,s.slot TRS with
 | .yld l',.tr l A L n st=>match (asArgs A ((args.map (opAV U s.slot)).map fun v=>(use v).2)).run s.blk with
  | some (x,fl)=>some ⟨Bool,false,usesObL (args.map (opAV U s.slot)),M.req (l'=l∧st=false∧∃ T,L (n++x::T)) (M.any fun _=>True),
    fun b=>AState.set ⟨fun i=>if i=TRS then .tr l A L (n++[x]) (!b) else s.slot i,(s.frz fl).blk⟩ o.dst (.val .bool b),none⟩
  | none=>none
 | _,_=>none
def rangeI (U:FnTab) (T:Nat→Ty) (s:AState) (o:Oper) (ty:TypeId) (x:Operand):Option PRes:=
 match T ty,o.dst with
 | .map k v,some d=>match use (opAV U s.slot x) with
  | (ob,av)=>match (asDen (.map k v) av).run s.blk with
   | some (es,fl)=>if fl.contains d then none else
    some ⟨Unit,(),ob,M.pure (),fun _=>((s.frz fl).setB d ⟨(s.blk d).gen+1,.it k v none es⟩).set o.dst (.iter d ((s.blk d).gen+1)),none⟩
   | none=>none
 | _,_=>none
def pick {α:Type} (l:List α):M (Option α):=⟨True,fun x=>match x with | none=>l=[] | some a=>a∈l⟩
def pickI {α:Type} (l:List α):M (Option Nat):=⟨True,fun x=>match x with | none=>l=[] | some i=>i<l.length⟩
def nxtN (i:Option Nat):Nat:=match i with | none=>0 | some _=>2
def nxtC {α:Type} (c:Option α) (rest:List α) (i:Option Nat):Option α:=match i with | none=>c | some i=>rest[i]?
def nxtR {α:Type} (rest:List α) (i:Option Nat):List α:=match i with | none=>rest | some i=>rest.eraseIdx i
def nextI (U:FnTab) (s:AState) (o:Oper) (x:Operand) (str:Bool):Option PRes:=
 match str,opAV U s.slot x with
 | false,.iter b g=>if (s.blk b).gen=g then (match (s.blk b).body with
  | .it k v c rest=>some ⟨Option Nat,none,True,pickI rest,fun i=>(s.setB b ⟨g,.it k v (nxtC c rest i) (nxtR rest i)⟩).set o.dst (.tup (Nat.succ (nxtN i)) (nthAV [.val .bool i.isSome])),none⟩
  | _=>none) else none
 | _,_=>none
def entryI (U:FnTab) (s:AState) (o:Oper) (x:Operand):Option PRes:=
 match opAV U s.slot x with
 | .iter b g=>if (s.blk b).gen=g then (match (s.blk b).body with
  | .it k v c _=>some ⟨Unit,(),True,M.req (c.isSome=true) (M.pure ()),fun _=>s.set o.dst (.tup 2 (nthAV [.val k ((c.map (·.1)).getD k.dflt),.val v ((c.map (·.2)).getD v.dflt)])),none⟩
  | _=>none) else none
 | _=>none
def nilEqI (U:FnTab) (T:Nat→Ty) (s:AState) (o:Oper) (op:BinOp) (ty:TypeId) (x y:Operand):Option PRes:=
 match T ty,opAV U s.slot y with
 | .slice e,.nils=>match (asDen (.slice e) (use (opAV U s.slot x)).2).run s.blk with
  | some (xs,_)=>match op with
   | .eql=>some ⟨Bool,false,(use (opAV U s.slot x)).1,M.any fun b=>b=true→xs=[],fun b=>s.set o.dst (.val .bool b),none⟩
   | .neq=>some ⟨Bool,false,(use (opAV U s.slot x)).1,M.any fun b=>b=true→xs=[],fun b=>s.set o.dst (.val .bool (!b)),none⟩
   | _=>none
  | none=>none
 | _,_=>none
def progI (U:FnTab) (T:Nat→Ty) (Φ:Nat→Option FC) (Ψ:Nat→Option KC) (s:AState) (o:Oper):Option PRes:=
 match o.op with
 | .call c=>match c.callee with
  | .value f=>match f with
   | .func k=>match Ψ k with
    | some (.io c')=>ioI U s o c.args.toList c'
    | _=>match scOf Φ Ψ k with
     | some sc=>scI U s o c.args.toList sc
     | none=>none
   | .tmp t=>match fnI U s o t c.args.toList with
    | some r=>some r
    | none=>yldI U s o t c.args.toList
   | _=>none
  | _=>none
 | .range ty x=>rangeI U T s o ty x
 | .next x str=>nextI U s o x str
 | .entry x=>entryI U s o x
 | .binOp op ty x y _=>nilEqI U T s o op ty x y
 | _=>none
def gdo {α:Type} (g:Bool) (m:M α) (d:α):M α:=if g=true then m else M.pure d
def rq {β:Type} (b:Bool) (p:Prop) (m:M β):M β:=match b with | true=>m | false=>M.req p m
def gwb (o:Oper) (dv:AV) (l:List (Nat×ABlk)):Option (List (Nat×ABlk)×AV):=
 match l with
 | []=>some ([],dv)
 | p::l'=>match o.op with
  | .makeFunc ..=>some (p::l',dv)
  | .buildSlice ..=>match l',dv,p.2.body with
   | [],.own b' g',.arr e xs=>if b'=p.1∧g'=p.2.gen then some ([(p.1,⟨p.2.gen,.dead⟩)],.val (.slice e) xs) else none
   | _,_,_=>none
  | _=>none
def offV (wb:List (Nat×ABlk)) (dv:AV):AV:=
 match dv with
 | .own b _=>match wb.find? (fun p=>p.1 == b) with
  | some (_,⟨_,.arr e xs⟩)=>.val (.slice e) xs
  | _=>dv
 | _=>dv
abbrev Tags:=List (Nat×(Nat×Bool))
def isKey (ops:Array Oper) (j d:Nat):Bool:=match ops[j]? with | some o=>(match o.dst with | some e=>e == d | none=>false) | none=>false
def tagged (tg:Tags) (t:Nat) (k:Nat×Bool):Bool:=tg.any fun p=>p.1 == t&&(p.2.1 == k.1&&p.2.2 == k.2)
def tagUp (ops:Array Oper) (tg:Tags) (o:Oper):Tags:=
 match o.dst with
 | none=>tg
 | some d=>match o.guard with
  | some k=>if isKey ops k.1 d=true then tg.filter fun p=>p.1 != d&&!isKey ops p.2.1 d else (d,k)::tg.filter fun p=>p.1 != d&&!isKey ops p.2.1 d
  | none=>tg.filter fun p=>p.1 != d&&!isKey ops p.2.1 d
def met (ρ:Operand→AV) (tg:Tags) (gk:Option (Nat×Bool)) (x:Operand):Bool:=
 !(ρ x).isWhn||(match x,gk with | .tmp t,some k=>tagged tg t k | _,_=>false)
def metP (ops:Array Oper) (tg:Tags) (c x:Operand) (want:Bool):Bool:=
 match c,x with
 | .tmp c,.tmp t=>tg.any fun p=>p.1 == t&&(isKey ops p.2.1 c&&p.2.2 == want)
 | _,_=>false
def allM (ρ:Operand→AV) (tg:Tags) (gk:Option (Nat×Bool)) (o:Oper):Bool:=o.op.operands.toList.all (met ρ tg gk)
def obM (ρ:Operand→AV) (ops:Array Oper) (tg:Tags) (gk:Option (Nat×Bool)) (o:Oper):Bool:=
 match o.op with
 | .pick c a b=>met ρ tg gk c&&((met ρ tg gk a||metP ops tg c a true)&&(met ρ tg gk b||metP ops tg c b false))
 | _=>allM ρ tg gk o
def dvM (ρ:Operand→AV) (tg:Tags) (gk:Option (Nat×Bool)) (o:Oper) (dv:AV):Bool:=
 !dv.isWhn||(match o.op with | .move x=>met ρ tg gk x | _=>false)
def tmp?:Operand→Option Nat
 | .tmp t=>some t
 | _=>none
def fuse3 (o o2 o3:Oper):Option (Oper×Nat×Nat):=
 match o.op with
 | .mapEntry ty m x=>match o2.op with
  | .extract e 1=>match o3.op with
   | .entryStore ty' m' e' y=>match o.dst,o2.dst,o3.dst with
    | some d1,some d2,none=>if tmp? e=some d1∧tmp? e'=some d2∧ty'=ty∧(tmp? m').isSome=true∧tmp? m'=tmp? m∧(tmp? y).isSome=true∧tmp? m≠some d1∧tmp? m≠some d2∧tmp? y≠some d1∧tmp? y≠some d2∧o.guard.isNone=true∧o2.guard.isNone=true∧o3.guard.isNone=true
     then some ({ o3 with op:=.mapUpdate ty m x y },d1,d2) else none
    | _,_,_=>none
   | _=>none
  | _=>none
 | _=>none
def fuseMap (o:Oper) (os:List Oper):Option (Oper×Nat×Nat):=
 match os with
 | o2::o3::_=>fuse3 o o2 o3
 | _=>none
def selM {β:Type}:Nat→Int→(Nat→M β)→M β
 | 0,_,_=>M.fail
 | 1,_,k=>k 0
 | n+2,v,k=>if v=((n+1:Nat):Int) then k (n+1) else selM (n+1) v k
theorem selM_ret {β:Type} {O:β→Prop} {k:Nat→M β} {v:Int}:∀ {n:Nat},M.Ret (selM n v k) O→0≤v→v<(n:Int)→M.Ret (k v.toNat) O
 | 0,h,_,_=>h.1.elim
 | 1,h,h0,h1=>by
  have:v.toNat=0:=by omega
  rw [this];exact h
 | n+2,h,h0,h1=>by
  unfold selM at h
  split at h
  ·rename_i e
   have:v.toNat=n+1:=by omega
   rw [this];exact h
  ·exact selM_ret h h0 (by omega)
def regI {β:Type} (U:FnTab) (T:Nat→Ty) (Φ:Nat→Option FC) (Ψ:Nat→Option KC) (ops:Array Oper):List Oper→Tags→AState→(AState→M β)→M β
 | [],_,s,k=>k s
 | o::os,tg,s,k=>
  match fuseMap o os with
  | some (oU,d1,d2)=>match os with
   | _::_::os'=>match (opV U T Φ (opAV U s.slot) oU).run s.blk with
    | some res=>M.req res.ob (M.req res.c (regI U T Φ Ψ ops os' [] (((s.app none res).set (some d1) .undef).set (some d2) .undef) k))
    | none=>M.fail
   | _=>M.fail
  | none=>
  match guardV s.slot ops o.guard with
  | none=>M.fail
  | some none=>match (opV U T Φ (opAV U s.slot) o).run s.blk with
   | some res=>rq (obM (opAV U s.slot) ops tg none o) res.ob (rq (cF (opAV U s.slot) o) res.c (regI U T Φ Ψ ops os (tagUp ops tg o) (s.app o.dst res) k))
   | none=>match progI U T Φ Ψ s o with
    | some pr=>rq (obF (opAV U s.slot) o) pr.ob (M.bind pr.m fun y=>regI U T Φ Ψ ops os [] (pr.st y) k)
    | none=>M.fail
  | some (some g)=>match (opV U T Φ (opAV U s.slot) o).run s.blk with
   | some ⟨ob,c,dv,wb⟩=>match gwb o dv wb with
    | some (wb',dv')=>rq (obM (opAV U s.slot) ops tg o.guard o&&(cF (opAV U s.slot) o&&dvM (opAV U s.slot) tg o.guard o dv')) (g=true→ob∧(c∧(use dv').1)) (regI U T Φ Ψ ops os (tagUp ops tg o) ((s.setBs wb').set o.dst (.whn g (use dv').2)) k)
    | none=>if g=true then M.req ob (M.req c (regI U T Φ Ψ ops os [] (s.app o.dst ⟨ob,c,dv,wb⟩) k)) else regI U T Φ Ψ ops os [] (s.set o.dst (.whn false (offV wb (use dv).2))) k
   | none=>match progI U T Φ Ψ s o with
    | some pr=>match pr.gst with
     | some gs=>rq (allM (opAV U s.slot) tg o.guard o) (g=true→pr.ob) (M.bind (gdo g pr.m pr.d) fun y=>regI U T Φ Ψ ops os (tagUp ops tg o) (gs g y) k)
     | none=>if g=true then M.req pr.ob (M.bind pr.m fun y=>regI U T Φ Ψ ops os [] (pr.st y) k) else regI U T Φ Ψ ops os [] (s.set o.dst (.whn false (use ((pr.st pr.d).slot (o.dst.getD 0))).2)) k
    | none=>M.fail
def reqs {β:Type}:List Prop→M β→M β
 | [],m=>m
 | p::l,m=>M.req p (reqs l m)
def sufGo (cl:List (List Nat)):Nat→Nat
 | 0=>0
 | n+1=>if (List.range n).all (fun i=>(cl.getD n []).contains i)=true then sufGo cl n else n+1
def entOps (oL oB oE oX oS:Oper):Bool:=
 match oL.op,oB.op,oE.op with
 | .lookup ty m x false,.binOp .add _ (.tmp t) (.const (.int k c)) _,.mapEntry ty' m' x'=>match oL.dst,oB.dst,fuse3 oE oX oS with
  | some dL,some dB,some (_,d1,d2)=>decide (t=dL∧ty'=ty∧InR k c∧tmp? m'=tmp? m∧tmp? x'=tmp? x∧dL≠dB∧dL≠d1∧dL≠d2∧dB≠d1∧dB≠d2∧d1≠d2∧
    (tmp? m).isSome=true∧(tmp? x).isSome=true∧tmp? m≠some dL∧tmp? m≠some dB∧tmp? m≠some d1∧tmp? m≠some d2∧tmp? x≠some dL∧tmp? x≠some dB∧tmp? x≠some d1∧tmp? x≠some d2∧oL.guard.isNone=true∧oB.guard.isNone=true)
  | _,_,_=>false
 | _,_,_=>false
def entEnd (ops:List Oper):Bool:=
 match ops.drop (ops.length - 5) with
 | [oL,oB,oE,oX,oS]=>entOps oL oB oE oX oS&&(edgesOk ops&&((List.range 5).all fun q=>(List.range (ops.length - 5)).all fun i=>((closure ops).getD (ops.length - 5+q) []).contains i)&&
   ((closure ops).getD (ops.length - 5+1) []).contains (ops.length - 5)&&((closure ops).getD (ops.length - 5+3) []).contains (ops.length - 5+2)&&((List.range 4).all fun q=>((closure ops).getD (ops.length - 5+4) []).contains (ops.length - 5+q))&&
   (direct oE).all (fun i=>decide (i<ops.length - 5))&&(direct oX).all (fun i=>decide (i<ops.length - 5)||decide (i=ops.length - 5+2)))
 | _=>false
def drawSuf (ops:List Oper):Nat:=if entEnd ops=true then ops.length - 5 else sufGo (closure ops) ops.length
def M.alts {α:Type} (l:List (M α)):M α:=⟨∀ m∈l,m.safe,fun x=>∃ m∈l,m.out x⟩
def readyL (ops:List Oper) (done:List Nat):List Nat:=(List.range ops.length).filter fun i=>!done.contains i&&match ops[i]? with | some o=>(direct o).all fun j=>done.contains j | none=>false
def exts (ops:List Oper):Nat→List Nat→List (List Nat)
 | 0,_=>[[]]
 | f+1,done=>match readyL ops done with
  | []=>[[]]
  | l=>l.flatMap fun i=>(exts ops f (i::done)).map (i::·)
def goodE (ops:List Oper):Nat→List Nat→Bool
 | 0,done=>(readyL ops done).isEmpty
 | f+1,done=>(readyL ops done).all fun i=>goodE ops f (i::done)
def stepE {β:Type} (U:FnTab) (T:Nat→Ty) (Φ:Nat→Option FC) (Ψ:Nat→Option KC) (ops:Array Oper) (o:Oper) (s:AState) (k:AState→M β):M β:=
 match o.guard with
 | some _=>M.fail
 | none=>match (opV U T Φ (opAV U s.slot) o).run s.blk with
  | some res=>rq (obM (opAV U s.slot) ops [] none o) res.ob (rq (cF (opAV U s.slot) o) res.c (k (s.app o.dst res)))
  | none=>match progI U T Φ Ψ s o with
   | some pr=>rq (obF (opAV U s.slot) o) pr.ob (M.bind pr.m fun y=>k (pr.st y))
   | none=>M.fail
def runE {β:Type} (U:FnTab) (T:Nat→Ty) (Φ:Nat→Option FC) (Ψ:Nat→Option KC) (ops:Array Oper):List Nat→AState→(AState→M β)→M β
 | [],s,k=>k s
 | i::is,s,k=>match ops[i]? with
  | some o=>stepE U T Φ Ψ ops o s fun s'=>runE U T Φ Ψ ops is s' k
  | none=>M.fail
def drawE {β:Type} (U:FnTab) (T:Nat→Ty) (Φ:Nat→Option FC) (Ψ:Nat→Option KC) (ops:Array Oper) (s:AState) (k:AState→M β):M β:=
 match goodE ops.toList ops.size [] with
 | true=>M.alts ((exts ops.toList ops.size []).map fun l=>runE U T Φ Ψ ops l s k)
 | false=>M.fail
def drawI {β:Type} (U:FnTab) (T:Nat→Ty) (Φ:Nat→Option FC) (Ψ:Nat→Option KC) (ops:Array Oper) (s:AState) (k:AState→M β):M β:=
 match steps U T Φ ops ops.toList s with
 | some (l,s')=>match drawOk ops.toList l with
  | true=>reqs (l.flatMap SR.cs) (k s')
  | false=>M.fail
 | none=>match steps U T Φ ops (ops.toList.take (drawSuf ops.toList)) s with
  | some (l,s')=>match drawOk (ops.toList.take (drawSuf ops.toList)) l&&edgesOk ops.toList with
   | true=>reqs (l.flatMap SR.cs) (regI U T Φ Ψ ops (ops.toList.drop (drawSuf ops.toList)) [] s' k)
   | false=>M.fail
  | none=>drawE U T Φ Ψ ops s k
inductive Ann where
 | leaf
 | seq (a b:Ann)
 | join (sh:Shape) (a b:Ann)
 | cond (a b:Ann)
 | block (a:Ann)
 | loop (sh:Shape) (a:Ann)
 | scope (a:Ann)
 | range (sh rin rout:Shape) (a b:Ann)
 | unr (a b:Ann)
 | split (i off n:Nat) (a:Ann)
 | num (i n:Nat) (a:Ann)
def Ann.flat:Ann→Bool
 | .leaf=>true
 | .seq a b=>a.flat&&b.flat
 | .join _ a b=>a.flat&&b.flat
 | .cond a b=>a.flat&&b.flat
 | .block a=>a.flat
 | .loop _ a=>a.flat
 | .scope a=>a.flat
 | .range ..=>false
 | .unr a b=>a.flat&&b.flat
 | .split _ _ _ a=>a.flat
 | .num _ _ a=>a.flat
def Ann.isUnr:Ann→Bool
 | .unr ..=>true
 | .leaf=>true
 | _=>false
inductive Ex where
 | normal
 | exit (id:Nat)
 | ret
def Ex.the:Ex→Exit
 | .normal=>.normal
 | .exit id=>.exit id
 | .ret=>.ret
open M (Step)
def thenK {β:Type} (k:Ex→AState→M β) (f:AState→M β) (e:Ex) (s:AState):M β:=
 match e with
 | .normal=>f s
 | .exit id=>k (.exit id) s
 | .ret=>k .ret s
def doneK {σ β:Type} (k:Ex→AState→M β) (f:AState→M (Step σ β)) (e:Ex) (s:AState):M (Step σ β):=
 match e with
 | .normal=>f s
 | .exit id=>M.bind (k (.exit id) s) fun r=>M.pure (.done r)
 | .ret=>M.bind (k .ret s) fun r=>M.pure (.done r)
def blockK {β:Type} (id:Nat) (k:Ex→AState→M β) (e:Ex) (s:AState):M β:=
 match e with
 | .normal=>k .normal s
 | .exit id'=>if id'=id then k .normal s else k (.exit id') s
 | .ret=>k .ret s
def Step.go {σ β:Type} (f:σ→M β) (st:Step σ β):M β:=
 match st with
 | .next x=>f x
 | .done r=>M.pure r
def condM {β:Type} (v:AV) (m n:M β):M β:=
 match v with
 | .val .bool t=>if t=true then m else n
 | .whn g (.val .bool t)=>M.req (g=true) (if t=true then m else n)
 | _=>M.fail
def splitV (s:AState) (i off:Nat):Option (Int×(Nat→AState)):=
 match s.slot i with
 | .loc b _ o=>match (s.blk b).body with
  | .cells t f=>match f (o+off) with
   | .val (.int kd) x=>some (x,fun j=>⟨s.slot,fun b'=>if b'=b then ⟨(s.blk b).gen,.cells t fun q=>if q=o+off then .val (.int kd) (j:Int) else f q⟩ else s.blk b'⟩)
   | _=>none
  | _=>none
 | _=>none
theorem splitV_self {s:AState} {i off:Nat} {x:Int} {f:Nat→AState} (h:splitV s i off=some (x,f)) (h0:0≤x):f x.toNat=s:=by
 unfold splitV at h
 split at h
 ·rename_i b g o hs
  split at h
  ·rename_i t f' hb
   split at h
   ·rename_i kd x' hx
    simp only [Option.some.injEq,Prod.mk.injEq] at h
    obtain ⟨rfl,rfl⟩:=h
    have e0:((x'.toNat:Nat):Int)=x':=by omega
    have e1:(fun q=>if q=o+off then AV.val (.int kd) (show (Ty.int kd).Den from ((x'.toNat:Nat):Int)) else f' q)=f':=by
     funext q
     split
     ·rename_i e;rw [e,hx,e0]
     ·rfl
    have e2:(fun b'=>if b'=b then (⟨(s.blk b).gen,.cells t f'⟩:ABlk) else s.blk b')=s.blk:=by
     funext q
     split
     ·rename_i e;rw [e,←hb]
     ·rfl
    show (⟨s.slot,fun b'=>if b'=b then ⟨(s.blk b).gen,.cells t fun q=>if q=o+off then AV.val (.int kd) (show (Ty.int kd).Den from ((x'.toNat:Nat):Int)) else f' q⟩ else s.blk b'⟩:AState)=s
    rw [e1,e2]
   ·cases h
  ·cases h
 ·cases h
def numV (s:AState) (i:Nat):Option (Int×(Nat→AState)):=
 match s.slot i with
 | .val (.int kd) x=>some (x,fun n=>⟨fun j=>if j=i then .val (.int kd) (n:Int) else s.slot j,s.blk⟩)
 | _=>none
theorem numV_self {s:AState} {i n:Nat} {x:Int} {f:Nat→AState} (h:numV s i=some (x,f)) (h0:x=(n:Int)):f n=s:=by
 unfold numV at h
 split at h
 ·rename_i kd x' hs
  simp only [Option.some.injEq,Prod.mk.injEq] at h
  obtain ⟨rfl,rfl⟩:=h
  have e1:(fun j=>if j=i then AV.val (.int kd) (show (Ty.int kd).Den from (n:Int)) else s.slot j)=s.slot:=by
   funext j
   split
   ·rename_i e;rw [e,hs,←h0]
   ·rfl
  show (⟨fun j=>if j=i then AV.val (.int kd) (show (Ty.int kd).Den from (n:Int)) else s.slot j,s.blk⟩:AState)=s
  rw [e1]
 ·cases h
def rounds {σ α:Type} (body:σ→α→M (Ex×σ)):List α→σ→M (Ex×σ)
 | [],σ=>M.pure (.normal,σ)
 | x::xs,σ=>M.bind (body σ x) fun p=>match p.1 with
  | .normal=>rounds body xs p.2
  | .exit id=>M.pure (.exit id,p.2)
  | .ret=>M.pure (.ret,p.2)
def setPs (A:Ty) (x:A.Den):List Tmp→Nat→(Nat→AV)→Nat→AV
 | [],_,f=>f
 | p::ps,i,f=>setPs A x ps (i+1) (fun j=>if j=p then resAV A x i else f j)
def roundSt (s:AState) (A:Ty) (x:A.Den) (ps:List Tmp):AState:=⟨fun i=>if i=TRS then s.slot TRS else setPs A x ps 0 s.slot i,s.blk⟩
def roundIO (rin rout:Shape):IOC:=⟨rin,rout,[],0,fun _=>M.fail⟩
def roundI {τ:Type} (sh rin rout:Shape) (A:Ty) (ps:List Tmp) (σ:sh.Den) (x:A.Den) (run:AState→M (τ×rout.Den)):M (τ×sh.Den):=
 match rin.rdF (ioF (roundIO rin rout) (roundSt (sh.st σ) A x ps)) (roundSt (sh.st σ) A x ps) with
 | some (ρ,fl)=>match ioOk (roundIO rin rout) (ioF (roundIO rin rout) (roundSt (sh.st σ) A x ps)) ((sh.st σ).frz fl) (outG ((sh.st σ).frz fl) 0 (ioF (roundIO rin rout) (roundSt (sh.st σ) A x ps)) rin.owns rout.blks 0) 0 0 with
  | true=>M.bind (run (rin.st ρ)) fun p=>sh.rdM (ioSt0 ((sh.st σ).frz fl) (roundIO rin rout) (ioF (roundIO rin rout) (roundSt (sh.st σ) A x ps)) (outG ((sh.st σ).frz fl) 0 (ioF (roundIO rin rout) (roundSt (sh.st σ) A x ps)) rin.owns rout.blks 0) p.2) fun σ'=>M.pure (p.1,σ')
  | false=>M.fail
 | none=>M.fail
def rangeOk (sh rout:Shape) (A:Ty) (ps:List Tmp) (nt:Nat):Bool:=
 rout.slots.isEmpty&&!sh.slots.any (fun p=>p.1 == TRS)&&decide (A≠.unit)&&decide (ps.length=resN A)&&ps.all fun p=>decide (p<nt)
def onlyNormal {β:Type} (f:AState→M β) (e:Ex) (s:AState):M β:=
 match e with
 | .normal=>f s
 | .exit _=>M.fail
 | .ret=>M.fail
def exC {β:Type} (n:M β) (x:Nat→M β) (r:M β) (e:Ex):M β:=
 match e with
 | .normal=>n
 | .exit id=>x id
 | .ret=>r
def exK {β:Type} (k:Ex→AState→M β) (e:Ex) (s:AState):M β:=exC (k .normal s) (fun id=>k (.exit id) s) (k .ret s) e
theorem exK_eq {β:Type} (k:Ex→AState→M β) (e:Ex) (s:AState):exK k e s=k e s:=by cases e<;>rfl
def codeI (U:FnTab) (T:Nat→Ty) (Φ:Nat→Option FC) (Ψ:Nat→Option KC):Ann→{β:Type}→Code→AState→(Ex→AState→M β)→M β
 | .seq a b,_,c,s,k=>match c with
  | .seq x y=>codeI U T Φ Ψ a x s (thenK k fun s'=>codeI U T Φ Ψ b y s' k)
  | _=>M.fail
 | .join sh a b,β,c,s,k=>match c with
  | .seq x y=>M.bind (codeI U T Φ Ψ a (β:=Step sh.Den β) x s (doneK k fun s'=>sh.rdM s' fun σ=>M.pure (.next σ))) (Step.go fun σ=>codeI U T Φ Ψ b y (sh.st σ) k)
  | _=>M.fail
 | .cond a b,_,c,s,k=>match c with
  | .cond c x y=>condM (opAV U s.slot c) (codeI U T Φ Ψ a x s k) (codeI U T Φ Ψ b y s k)
  | _=>M.fail
 | .block a,_,c,s,k=>match c with
  | .block id c=>codeI U T Φ Ψ a c s (blockK id k)
  | _=>M.fail
 | .loop sh a,β,c,s,k=>match c with
  | .loop c=>sh.rdM s fun σ=>M.loop (fun σ=>codeI U T Φ Ψ a (β:=Step sh.Den β) c (sh.st σ) (doneK k fun s'=>sh.rdM s' fun σ'=>M.pure (.next σ'))) σ
  | _=>M.fail
 | .unr a b,_,c,s,k=>match c with
  | .loop x=>match b.isUnr with
   | true=>codeI U T Φ Ψ a x s (thenK k fun s'=>codeI U T Φ Ψ b (.loop x) s' k)
   | false=>M.fail
  | _=>M.fail
 | .scope a,_,c,s,k=>match c with
  | .scope c=>codeI U T Φ Ψ a c s k
  | _=>M.fail
 | .num i n a,_,c,s,k=>match numV s i with
  | some (x,f)=>M.req (x=(n:Int)) (codeI U T Φ Ψ a c (f n) k)
  | none=>M.fail
 | .split i off n a,_,c,s,k=>match splitV s i off with
  | some (x,f)=>M.req (0≤x∧x<(n:Int)) (selM n x fun j=>codeI U T Φ Ψ a c (f j) k)
  | none=>M.fail
 | .range sh rin rout a b,_,c,s,k=>match c with
  | .rangeFunc g ps assign body=>match opAV U s.slot g with
   | .bnd kf n fs=>match Ψ kf with
    | some (.it ic)=>match (asArgs ic.ts ((List.range n).map fs)).run s.blk with
     | some (x,fl)=>match rangeOk sh rout ic.A ps.toList TMAX&&(a.flat&&b.flat) with
      | true=>sh.rdM (s.frz fl) fun σ=>M.req (ic.pre x) (M.bind (rounds (fun σ y=>roundI sh rin rout ic.A ps.toList σ y fun s1=>
       codeI U T Φ Ψ a (β:=Ex×rout.Den) assign s1 (onlyNormal fun s2=>codeI U T Φ Ψ b body s2 fun e s3=>rout.rdM s3 fun τ=>M.pure (e,τ))) (ic.seq x) σ) fun p=>exK k p.1 (sh.st p.2))
      | false=>M.fail
     | none=>M.fail
    | _=>M.fail
   | .val (.it A) S=>match rangeOk sh rout A ps.toList TMAX&&(a.flat&&b.flat) with
    | true=>sh.rdM s fun σ=>M.bind (M.any S) fun L=>M.bind (rounds (fun σ y=>roundI sh rin rout A ps.toList σ y fun s1=>
     codeI U T Φ Ψ a (β:=Ex×rout.Den) assign s1 (onlyNormal fun s2=>codeI U T Φ Ψ b body s2 fun e s3=>rout.rdM s3 fun τ=>M.pure (e,τ))) L σ) fun p=>exK k p.1 (sh.st p.2)
    | false=>M.fail
   | _=>M.fail
  | _=>M.fail
 | .leaf,_,c,s,k=>match c with
  | .region _ ops draw=>match draw with
   | true=>drawI U T (dPhi Φ Ψ) Ψ ops s (k .normal)
   | false=>regI U T Φ Ψ ops ops.toList [] s (k .normal)
  | .skip=>k .normal s
  | .label _=>k .normal s
  | .exit id=>k (.exit id) s
  | .ret=>k .ret s
  | _=>M.fail
def codeOk (nt:Nat):Code→Bool
 | .region _ ops _=>ops.toList.all fun o=>dstOk o nt
 | .seq a b=>codeOk nt a&&codeOk nt b
 | .cond _ a b=>codeOk nt a&&codeOk nt b
 | .block _ a=>codeOk nt a
 | .loop a=>codeOk nt a
 | .scope a=>codeOk nt a
 | .rangeFunc _ ps a b=>ps.toList.all (fun p=>decide (p<nt))&&(codeOk nt a&&codeOk nt b)
 | .skip=>true
 | .label _=>true
 | .exit _=>true
 | .ret=>true
 | _=>false
end Go.Fer
