/- Part 5 of the proof of FilesCopies: shallow programs of Go functions, and what they compute. No condition. -/
import Derived.Test.YtgjjjhfempihkaaDoorFilesCopiesD
import Derived.Shelf.Strings.BuilderK
import Derived.Shelf.Strings.Builder1
noncomputable section
namespace Go.Fer.Sk
open Go.Proofs Go.RowKit
set_option linter.unusedVariables false
set_option linter.unusedSimpArgs false
section
variable {P:Program} {F:Nat→Prop} {w:World}
theorem bytes_eq (x:List UInt8):(ByteArray.mk x.toArray).data.toList=x:=by simp
theorem bytes_size (x:List UInt8):(ByteArray.mk x.toArray).size=x.length:=by show x.toArray.size=_;simp
theorem str_args1 {args:List Value} {x:List UInt8} (h:RArgs P .str F w args x):args=[.string ⟨x.toArray⟩]∧x.length<2 ^ 63:=by
 obtain ⟨v,rfl,hv⟩:=(RArgs_single rfl).1 h
 obtain ⟨rfl,hl⟩:=RV_str.1 hv
 exact ⟨rfl,hl⟩
theorem str_args2 {args:List Value} {x y:List UInt8} (h:RArgs P (.prod .str .str) F w args (x,y)):args=[.string ⟨x.toArray⟩,.string ⟨y.toArray⟩]∧x.length<2 ^ 63∧y.length<2 ^ 63:=by
 obtain ⟨v,us,rfl,hv,hu⟩:=RArgs_prod h
 obtain ⟨rfl,hl⟩:=RV_str.1 hv
 obtain ⟨rfl,hl2⟩:=str_args1 hu
 exact ⟨rfl,hl,hl2⟩
end
def b_isText:Code:=Tryd.f29.body.getD .skip
theorem b_isText_ok:Tryd.f29.body=some b_isText:=by kernel_rfl
abbrev fcIsText:FC:=⟨.str,.bool,fun _=>True,fun s=>s.all Tryd.okByte⟩
open Classical in
theorem okFrom_all (x:List UInt8):decide (Tryd.okFrom ⟨x.toArray⟩ 0)=x.all Tryd.okByte:=by
 rw [Bool.eq_iff_iff,decide_eq_true_iff,List.all_eq_true]
 unfold Tryd.okFrom
 constructor
 ·intro h b hb
  obtain ⟨i,hi,rfl⟩:=List.mem_iff_getElem.1 hb
  have:=h i (by rw [bytes_size];exact hi) (Nat.zero_le _)
  exact this
 ·intro h i hi _
  have hi':i<x.length:=by rw [bytes_size] at hi;exact hi
  exact h _ (List.getElem_mem hi')
theorem spec_isText:FnSpec Tryd.prog 29 .str .bool fcIsText.sh where
 enter:=callFunc_enter Tryd.func29 b_isText_ok (by kernel_rfl)
 calls:=fun F w args x hF hG ha hs=>by
  obtain ⟨rfl,hl⟩:=str_args1 ha
  refine (Tryd.isText_walk ⟨x.toArray⟩ w).mono ?_
  rintro e w' ⟨rfl,hb⟩
  refine ⟨_,x.all Tryd.okByte,rfl,rfl,⟨[_],rfl,(RArgs_single rfl).2 ⟨_,rfl,?_⟩⟩,hb⟩
  rw [okFrom_all]
  exact RV_bool.2 rfl
def b_cut:Code:=Tryd.f49.body.getD .skip
theorem b_cut_ok:Tryd.f49.body=some b_cut:=by kernel_rfl
abbrev fcCut:FC:=⟨.prod .str .str,.prod .str (.prod .str .bool),fun x=>x.1.length<4294967281,fun x=>Lib.cut x.1 x.2⟩
theorem cut_length (s sep:List UInt8):(Lib.cut s sep).1.length≤s.length∧(Lib.cut s sep).2.1.length≤s.length:=by
 unfold Lib.cut
 split
 ·simp;omega
 ·simp
theorem spec_cut:FnSpec Tryd.prog 49 (.prod .str .str) (.prod .str (.prod .str .bool)) fcCut.sh where
 enter:=callFunc_enter Tryd.func49 b_cut_ok (by kernel_rfl)
 calls:=fun F w args x hF hG ha hs=>by
  obtain ⟨s,sep⟩:=x
  have hs:s.length<4294967281:=hs
  obtain ⟨rfl,hl,hl2⟩:=str_args2 ha
  obtain ⟨_,m,hm⟩:=hG (fun h=>absurd (show (Tryd.prog.globals.size == 0)=true by rw [h];rfl) (by rw [show (Tryd.prog.globals.size == 0)=false by kernel_rfl];decide))
  refine (Tryd.strings_Cut ⟨s.toArray⟩ ⟨sep.toArray⟩ m w (by rw [bytes_size];exact hs) hm).mono ?_
  rintro e w' ⟨rfl,n,rfl⟩
  obtain ⟨c1,c2⟩:=cut_length s sep
  refine ⟨_,Lib.cut s sep,rfl,rfl,⟨[.string ⟨(Lib.cut s sep).1.toArray⟩,.string ⟨(Lib.cut s sep).2.1.toArray⟩,.bool (Lib.cut s sep).2.2],?_,?_⟩,⟨rfl,rfl,rfl,Nat.le_refl _,fun _ _=>rfl⟩⟩
  ·rw [bytes_eq,bytes_eq];rfl
  ·refine RArgs_cons.2 ⟨RV_str.2 ⟨rfl,Nat.lt_of_le_of_lt c1 hl⟩,RArgs_cons.2 ⟨RV_str.2 ⟨rfl,Nat.lt_of_le_of_lt c2 hl⟩,(RArgs_single rfl).2 ⟨_,rfl,RV_bool.2 rfl⟩⟩⟩
def b_rep:Code:=Tryd.f69.body.getD .skip
theorem b_rep_ok:Tryd.f69.body=some b_rep:=by kernel_rfl
abbrev fcRepeat:FC:=⟨.prod .str (.int .i64),.str,fun x=>0≤x.2∧x.1.length*x.2.toNat<65536,fun x=>Lib.repeatL x.1 x.2.toNat⟩
theorem spec_rep:FnSpec Tryd.prog 69 (.prod .str (.int .i64)) .str fcRepeat.sh where
 enter:=callFunc_enter Tryd.func69 b_rep_ok (by kernel_rfl)
 calls:=fun F w args x hF hG ha hs=>by
  obtain ⟨s,n⟩:=x
  change Int at n
  obtain ⟨h0,h1⟩:0≤n∧s.length*n.toNat<65536:=hs
  obtain ⟨v,us,rfl,hv,hu⟩:=RArgs_prod ha
  obtain ⟨rfl,hl⟩:=RV_str.1 hv
  obtain ⟨v2,rfl,hv2⟩:=(RArgs_single rfl).1 hu
  obtain ⟨rfl,hn⟩:=RV_int.1 hv2
  have hn2:n≤9223372036854775807:=hn.2
  have en:n=((n.toNat:Nat):Int):=by omega
  have:=Tryd.strings_Repeat ⟨s.toArray⟩ n.toNat w (by omega) (by rw [bytes_size];omega)
  rw [←en] at this
  refine this.mono ?_
  rintro e w' ⟨rfl,hb⟩
  refine ⟨_,Lib.repeatL s n.toNat,rfl,rfl,⟨[_],rfl,(RArgs_single rfl).2 ⟨_,rfl,?_⟩⟩,hb⟩
  rw [bytes_eq]
  refine RV_str.2 ⟨rfl,?_⟩
  rw [Lib.repeatL_length,Nat.mul_comm]
  omega
def b_split:Code:=Tryd.f50.body.getD .skip
theorem b_split_ok:Tryd.f50.body=some b_split:=by kernel_rfl
def splitV (s sep:List UInt8):List (List UInt8):=(Lib.splitB ⟨sep.toArray⟩ 0 (Lib.countB ⟨s.toArray⟩ ⟨sep.toArray⟩) ⟨s.toArray⟩).map (·.data.toList)
theorem splitB_sizes (sep:ByteArray):∀ (k:Nat) (s:ByteArray),∀ x∈Lib.splitB sep 0 k s,x.size≤s.size
 | 0,s,x,hx=>by
  unfold Lib.splitB at hx
  simp at hx
  subst hx
  exact Nat.le_refl _
 | k+1,s,x,hx=>by
  unfold Lib.splitB at hx
  split at hx
  ·simp at hx
   subst hx
   exact Nat.le_refl _
  ·simp only [List.mem_cons] at hx
   rcases hx with rfl | hx
   ·rw [ByteArray.size_extract];omega
   ·have:=splitB_sizes sep k _ x hx
    rw [ByteArray.size_extract] at this
    omega
abbrev fcSplit:FC:=⟨.prod .str .str,.slice .str,fun x=>x.1.length<4294967281∧1≤x.2.length,fun x=>splitV x.1 x.2⟩
theorem spec_split:FnSpec Tryd.prog 50 (.prod .str .str) (.slice .str) fcSplit.sh where
 enter:=callFunc_enter Tryd.func50 b_split_ok (by kernel_rfl)
 calls:=fun F w args x hF hG ha hs=>by
  obtain ⟨s,sep⟩:=x
  obtain ⟨hs,h1⟩:s.length<4294967281∧1≤sep.length:=hs
  obtain ⟨rfl,hl,hl2⟩:=str_args2 ha
  obtain ⟨_,m,hm⟩:=hG (fun h=>absurd (show (Tryd.prog.globals.size == 0)=true by rw [h];rfl) (by rw [show (Tryd.prog.globals.size == 0)=false by kernel_rfl];decide))
  have hsz:1≤(ByteArray.mk sep.toArray).size:=by rw [bytes_size];exact h1
  refine (Tryd.strings_Split ⟨s.toArray⟩ ⟨sep.toArray⟩ m w (by rw [bytes_size];exact hs) hm hsz).mono ?_
  rintro e w' ⟨rfl,rfl⟩
  have hlen:=Lib.splitB_all ⟨sep.toArray⟩ hsz 0 _ ⟨s.toArray⟩ rfl
  have hcnt:=Lib.countB_le ⟨sep.toArray⟩ hsz _ ⟨s.toArray⟩ (Nat.le_refl _)
  rw [bytes_size] at hcnt
  have hel:=splitB_sizes ⟨sep.toArray⟩ (Lib.countB ⟨s.toArray⟩ ⟨sep.toArray⟩) ⟨s.toArray⟩
  rw [bytes_size] at hel
  have hvl:(splitV s sep).length=Lib.countB ⟨s.toArray⟩ ⟨sep.toArray⟩+1:=by unfold splitV;rw [List.length_map,hlen]
  refine ⟨_,splitV s sep,rfl,rfl,⟨[_],rfl,(RArgs_single rfl).2 ⟨_,rfl,(RV_leaf rfl).2 ⟨rfl,some ⟨w.heap.size,0,none⟩,Lib.countB ⟨s.toArray⟩ ⟨sep.toArray⟩+1,by rw [hvl],by rw [hvl];exact Nat.le_refl _,by omega,nofun,fun p hp hc=>?_⟩⟩⟩,?_⟩
  ·cases hp
   refine ⟨.inr ⟨Nat.le_refl _,by simp⟩,rfl,fun i hi=>?_⟩
   have hi2:i<(Lib.splitB ⟨sep.toArray⟩ 0 (Lib.countB ⟨s.toArray⟩ ⟨sep.toArray⟩) ⟨s.toArray⟩).length:=by rw [hlen];omega
   generalize hB:Lib.splitB ⟨sep.toArray⟩ 0 (Lib.countB ⟨s.toArray⟩ ⟨sep.toArray⟩) ⟨s.toArray⟩=B at hi2 hel hlen
   have eg:(splitV s sep)[i]=B[i].data.toList:=by
    have h2:splitV s sep=B.map (·.data.toList):=by unfold splitV;rw [hB]
    simp only [h2,List.getElem_map]
   have e0:Value.string B[i]=.string ⟨(B[i].data.toList).toArray⟩:=by simp
   refine ⟨[.string B[i]],⟨.inr ⟨Nat.le_refl _,by simp⟩,rfl,fun j hj=>?_⟩,?_,?_⟩
   ·have hj:j=0:=by simpa using hj
    subst hj
    rw [cell_of (heap_alloc_new w _)]
    have e1:0+i*Ty.size .str+0=i:=by show 0+i*1+0=i;omega
    show _[0+i*Ty.size .str+0]?=_
    rw [e1]
    simp [hi2]
   ·exact (congrArg (fun v=>[v]) e0).trans (congrArg (fun l:List UInt8=>[Value.string ⟨l.toArray⟩]) eg.symm)
   ·have:=hel _ (List.getElem_mem hi2)
    have e:(B[i]).data.toList.length=(B[i]).size:=Array.length_toList
    exact Nat.lt_of_le_of_lt (Nat.le_of_eq (congrArg List.length eg)) (by omega)
  ·exact (Below.refl _ _).alloc (Nat.le_refl _) _
end Go.Fer.Sk
namespace Go.Fer
open Go.RowKit Go.Proofs Go.Shelf
abbrev tBld (n:Nat):Ty:=.st (.prod (.ptr (.array n .unit)) (.slice (.int .u8)))
def shpBld (n:Nat):List (Nat×TB):=[(100001,.cells (tBld n) [.nos 100001,.own 100002]),(100002,.arr (.int .u8))]
def iocCopy (n:Nat):IOC:=⟨⟨[(0,.loc 100001 0)],shpBld n⟩,⟨[],shpBld n⟩,[],1,fun σ=>M.pure σ⟩
theorem copy_io {P:Program} {ρ:Ren} (L:Lays.n240 P ρ) (X:Builder.X72 P ρ) {U:FnTab} {n:Nat} (hn:P.underlying n=some (.pointer (ρ.t 72))) (he:∀ args w,(callFunc (ρ.f 240) args).run P w=.ok (.enter (ρ.f 240) args) w):IoSpec P U (ρ.f 240) (iocCopy n) where
  enter:=he
  calls C a w κ F σ hP hw0 hr hd hnt hft h hs:=by
    obtain ⟨xs,u⟩:=σ
    have hsz:a.tmps.size=1:=h.tsz.trans hnt
    have hslot:=h.slots 0
    have hb:=h.blks 100001
    let st:=(iocCopy n).sin.st (xs,u)
    change HBody C.P st.blk κ F w (κ 100001) (.cells (tBld n) (nthAV [.nos 100001 0,.own 100002 0])) at hb
    have hv:a.tmps.getD 0 undef=.pointer (some ⟨(κ 100001).blk,0,none⟩):=hslot.2 rfl rfl
    have ha:a.tmps=#[.pointer (some ⟨(κ 100001).blk,0,none⟩)]:=by
      apply Array.ext (by simp [hsz])
      intro i hi hi'
      have:i=0:=by omega
      subst this
      rw [←hv]
      simp [Array.getD,hsz]
    have hfin:∀ {w':World},RelK C st a w' κ F→RelK { C with nt:=0 } ((iocCopy n).out.st (xs,u)) { tmps:=#[],defers:=[] } w' κ F:=fun {w'} hR=>by
      have e:((iocCopy n).out.st (xs,u)).blk=st.blk:=rfl
      refine { tsz := rfl, dfr := hd.symm, slots := fun i => trivial, blks := fun b => hR.blks b, own := fun b => hR.own b, inj := fun b b' => hR.inj b b', fsz := hR.fsz, flo := hR.flo, fhi := hR.fhi, ksz := hR.ksz, keep := hR.keep, size := hR.size, calm := hR.calm, nsz := Nat.zero_le _, aran := hR.aran, anch := fun b r => hR.anch b r, ara := hR.ara, anA := fun b k => hR.anA b k, pro := fun l A L n st e => (by cases e), pool := fun e' m hm => (by
        have hm:(lookB [(100001,Body.cells (tBld n) (nthAV [.nos 100001 0,.own 100002 0])),(100002,Body.arr (.int .u8) xs)] 150000).body=.pool e' m:=hm
        simp [lookB] at hm),ftok:=hR.ftok,glob:=hR.glob }
    obtain ⟨cs,T,c1,⟨c2,c3⟩,c4⟩:=hb
    have hT:T=ρ.t 72:=by
      have h1:=c3 n _ rfl
      rw [hP,hn] at h1
      simpa using h1.symm
    have c2:cs.size=2:=c2
    have hcell:w.cell? ⟨(κ 100001).blk,0,none⟩=some (cs.getD 0 undef):=by
      simp [World.cell?,c1,Array.getD,c2]
    have k0:=(c4 0 (by show 0<2;omega)).1
    have k0:cs.getD 0 undef=.pointer none∨cs.getD 0 undef=.pointer (some ⟨(κ 100001).blk,0,none⟩):=k0.2 rfl rfl
    rw [ha]
    subst hP
    rcases k0 with k0 | k0
    · refine (Any.Builder_copyCheck_fresh L X _ w (hcell.trans (congrArg some k0)) (by simp [World.shape?,c1,hT,c2]) (by simp [World.frozen?,c1])).mono ?_
      rintro e w' ⟨rfl,rfl⟩
      refine ⟨_,(xs,u),[],κ,F,rfl,rfl,⟨[],rfl,rfl,rfl⟩,hfin ?_⟩
      have hw:=h.write (b:=100001) (x:=⟨0,.cells (tBld n) (nthAV [.nos 100001 0,.own 100002 0])⟩) (w':=w.setCell ⟨(κ 100001).blk,0,none⟩ (.pointer (some ⟨(κ 100001).blk,0,none⟩))) rfl rfl
        (later_same rfl (fun _=>rfl) (fun h=>by cases h) (fun h=>by cases h) (fun h=>by cases h)) (fun _=>rfl) (fun h=>by cases h)
        (fun r hr=>by simp only [World.setCell,Array.getElem?_modify];rw [if_neg (by exact fun e=>hr e.symm)]) (by simp [World.setCell]) ⟨rfl,rfl,rfl⟩ (fun H hH hlt he=>?_)
      · have e:(AState.setB ((iocCopy n).sin.st (xs,u)) 100001 ⟨0,.cells (tBld n) (nthAV [.nos 100001 0,.own 100002 0])⟩)=st:=by
          show AState.mk _ _=AState.mk _ _
          congr 1
          funext i
          by_cases hi:i=100001
          · subst hi;rfl
          · rw [if_neg hi];rfl
        rw [e] at hw
        exact hw
      · refine ⟨cs.setIfInBounds 0 (.pointer (some ⟨(κ 100001).blk,0,none⟩)),T,?_,⟨by rw [Array.size_setIfInBounds];exact c2,c3⟩,fun i hi=>?_⟩
        · simp [World.setCell,Array.getElem?_modify,c1]
        · have hi:i<2:=hi
          rcases Nat.lt_or_ge i 1 with h0 | h0
          · obtain rfl:i=0:=by omega
            have e0:(cs.setIfInBounds 0 (.pointer (some ⟨(κ 100001).blk,0,none⟩))).getD 0 undef=.pointer (some ⟨(κ 100001).blk,0,none⟩):=by simp [Array.getD,c2]
            rw [e0]
            subst hH
            exact ⟨⟨⟨Nat.zero_le _,rfl⟩,fun _ _=>.inr rfl⟩,rfl⟩
          · obtain rfl:i=1:=by omega
            have e0:(cs.setIfInBounds 0 (.pointer (some ⟨(κ 100001).blk,0,none⟩))).getD 1 undef=cs.getD 1 undef:=by simp [Array.getD,c2]
            rw [e0]
            exact ⟨RA.later hlt (fun _ hr=>hr) he (c4 1 hi).1,(c4 1 hi).2⟩
    · refine (Any.Builder_copyCheck_used L X _ w (hcell.trans (congrArg some k0))).mono ?_
      rintro e w' ⟨rfl,rfl⟩
      exact ⟨_,(xs,u),[],κ,F,rfl,rfl,⟨[],rfl,rfl,rfl⟩,hfin h⟩
end Go.Fer
namespace Go.Fer
open Go.RowKit
theorem fresh_of_io {P:Program} {U:FnTab} {k:FuncId} {ts e:Ty} (hts:ts≠.unit) (he:e.pure=true) {c:IOC} (h:IoSpec P U k c) (hU:FnTabOk P U) {sh:ts.Den→M (List e.Den)} {b0:Nat} (mk:ts.Den→c.sin.Den)
    (hsin:∀ x,c.sin.st (mk x)=⟨look ((List.range (resN ts)).map fun i=>(i,resAV ts x i)),fun _=>⟨0,.dead⟩⟩) (hn:c.nargs=resN ts) (hn2:c.nargs≤TMAX) (hgrp:c.grp=[none]) (val:c.out.Den→List e.Den) (hout:∀ τ,(c.out.st τ).slot 0=.own b0 0∧(c.out.st τ).blk b0=⟨0,.arr e (val τ)⟩)
    (hpl:∀ x,(sh x).safe→(c.sh (mk x)).safe∧∀ τ,(c.sh (mk x)).out τ→(sh x).out (val τ)):FnSpec P k ts (.slice e) sh∧FreshSpec P k ts (.slice e) sh:=by
  have key:∀ (F:Nat→Prop) (w:World) (args:List Value) (x:ts.Den),(∀ r,F r→r<w.heap.size)→GlOk P F w→RArgs P ts F w args x→(sh x).safe→
      Calls P k args.toArray w fun e' w'=>∃ (v:Value) (y:(Ty.slice e).Den),e'=.returned v∧(sh x).out y∧RRes P (.slice e) (fun r=>w.heap.size≤r∧r<w'.heap.size) w' v y∧Below w.heap.size w w':=by
    intro F w args x hF hG hargs hs
    obtain ⟨hal,hav⟩:=args_ok (H:=fun _=>⟨0,.dead⟩) (κ:=fun _=>⟨0,0,0,false⟩) ts hargs hts
    let C:Ctx:={ P:=P,w0:=w,F0:=F,K0:=fun r=>r<w.heap.size,nt:=c.nargs,r:=none,dfr:=[],an:=fun _=>none,pr:=⟨0,.unit,fun _=>False,fun _ _ _ _ _=>False⟩,ft:=U }
    have hlk:∀ i,look ((List.range (resN ts)).map fun i=>(i,resAV ts x i)) i=.undef∨(i<resN ts∧look ((List.range (resN ts)).map fun i=>(i,resAV ts x i)) i=resAV ts x i):=fun i=>by
      rcases look_of (l:=(List.range (resN ts)).map fun i=>(i,resAV ts x i)) (i:=i) with e | e
      · exact .inl e
      · refine .inr ?_
        generalize hz:look ((List.range (resN ts)).map fun i=>(i,resAV ts x i)) i=z at e
        simp only [List.mem_map,List.mem_range,Prod.mk.injEq] at e
        obtain ⟨j,hj,rfl,rfl⟩:=e
        exact ⟨hj,rfl⟩
    have hr:RelK C (c.sin.st (mk x)) { tmps:=args.toArray,defers:=[] } w (fun _=>⟨0,0,0,false⟩) F:=by
      rw [hsin]
      refine { tsz := ?_, dfr := rfl, slots := fun i => ?_, blks := fun b => trivial, own := fun b hb => (by cases hb), inj := fun b b' hb _ _ => (by cases hb), fsz := hF, flo := fun r hr => .inl hr, fhi := fun r hr => hr, ksz := fun r hr => hr, keep := fun r _ => rfl, size := Nat.le_refl _, calm := Calm.refl w,
               nsz:=hn2,aran:=fun b r h=>(by cases h),anch:=fun b r h=>(by cases h),ara:=fun b k h=>(by cases h),anA:=fun b k h=>(by cases h),pro:=fun l A L n st e=>?_,pool:=fun e m hm=>(by cases hm),ftok:=hU,glob:=hG }
      · show args.toArray.size=c.nargs
        rw [hn];simpa using hal
      · rcases hlk i with e | ⟨hi,e⟩
        · show RA _ _ _ _ _ (look _ i) _
          rw [e];trivial
        · show RA _ _ _ _ _ (look _ i) _
          rw [e]
          have:=hav i hi
          simpa [Array.getD_eq_getD_getElem?,List.getD_eq_getElem?_getD] using this
      · rcases hlk TRS with h | ⟨h,_⟩
        · have e:look _ TRS=_:=e
          rw [h] at e;cases e
        · unfold TRS at h;unfold TMAX at hn2;omega
    obtain ⟨hs1,hs2⟩:=hpl x hs
    refine (h.calls C _ w _ F (mk x) rfl rfl rfl rfl rfl rfl hr hs1).mono fun e' w' ⟨v,τ,vs,κ',F',he',hτ,hgv,hr'⟩=>?_
    obtain ⟨ho1,ho2⟩:=hout τ
    rw [hgrp] at hgv
    obtain ⟨us,hu1,hu2,hu3⟩:=hgv
    obtain ⟨u,rfl⟩:∃ u,us=[u]:=by
      cases us with
      | nil=>simp at hu1
      | cons u us=>cases us with | nil=>exact ⟨u,rfl⟩ | cons _ _=>simp at hu1
    obtain ⟨vs',hvs,hvs'⟩:=hu3
    have hvs':vs'=[]:=hvs'
    subst hvs'
    have hv:v=u:=by simpa using hu2
    have hsl:=hr'.slots 0
    rw [ho1,hvs] at hsl
    have hsl2:u=(κ' b0).slice ((c.out.st τ).blk b0).body.len:=by
      have:=hsl.2 (by rw [ho2]) (by rw [ho2];rfl)
      simpa using this
    rw [ho2] at hsl2
    have hB:=hr'.blks b0
    unfold HB at hB
    rw [ho2] at hB
    have hown:(κ' b0).isNil=false→w.heap.size≤(κ' b0).blk∧(κ' b0).blk<w'.heap.size:=fun hn=>by
      have:=hr'.own b0 (by rw [ho2];simp [Body.owned,hn])
      exact ⟨Nat.le_of_not_lt this.2.2,this.1⟩
    refine ⟨v,val τ,he',hs2 τ hτ,⟨[v],rfl,(RArgs_single rfl).2 ⟨v,rfl,(RV_leaf rfl).2 ⟨?_,?_⟩⟩⟩,hr'.calm.os,hr'.calm.tape,hr'.calm.output,hr'.size,hr'.keep⟩
    · rw [hv,hsl2];unfold KB.slice;split<;>rfl
    · rw [hv,hsl2]
      simp only [Body.len]
      obtain ⟨h1,h2⟩:=hB
      simp only [RC,KB.slice]
      cases hn:(κ' b0).isNil with
      | true=>rw [h1 hn];exact ⟨none,0,rfl,Nat.le_refl _,by decide,fun _=>rfl,fun p hp=>by cases hp⟩
      | false=>
        obtain ⟨cs,T,c1,c2,c3,c4,c5⟩:=h2 hn
        refine ⟨some ⟨(κ' b0).blk,(κ' b0).off,none⟩,(κ' b0).cap,by simp,c3,c4.1,(by simp),fun p hp _=>?_⟩
        cases hp
        refine ⟨hown hn,rfl,fun i hi=>?_⟩
        obtain ⟨ds,d1,d2⟩:=c5 i hi
        refine ⟨ds,⟨hown hn,rfl,fun j hj=>?_⟩,RC_pure e he d2⟩
        simp only [World.cell?,c1]
        exact d1 j hj
  exact ⟨⟨h.enter,fun F w args x hF hG ha hs=>(key F w args x hF hG ha hs).mono fun e' w' ⟨v,y,h1,h2,⟨vs,h3,h4,h5⟩,h6⟩=>⟨v,y,h1,h2,⟨vs,h3,h4,RC_mono _ (fun r hr=>.inr hr) (Ext.refl _ _) h5⟩,h6⟩⟩,⟨key⟩⟩
end Go.Fer
namespace Go.Fer
open M (Step)
set_option linter.unusedVariables false
set_option linter.unusedSimpArgs false
theorem wrap64 {n:Int} (h1:-9223372036854775808≤n) (h2:n<9223372036854775808):IntKind.i64.wrap n=n:=by
 show (if (true&&decide (n % 2 ^ 64≥(2 ^ (64 - 1):Int)))=true then n % 2 ^ 64 - 2 ^ 64 else n % 2 ^ 64)=n
 have e1:(2:Int) ^ 64=18446744073709551616:=by decide
 have e2:(2:Int) ^ (64 - 1)=9223372036854775808:=by decide
 simp only [Bool.true_and,decide_eq_true_eq,e1,e2]
 split<;>omega
theorem add_def (a b:Int):Add.add a b=a+b:=rfl
theorem add_defN (a b:Nat):Add.add a b=a+b:=rfl
theorem append_def {α:Type} (a b:List α):Append.append a b=a++b:=rfl
theorem ofNat_def (n:Nat):Int.ofNat n=(n:Int):=rfl
theorem or_gdo {x c d:Bool}:(x||!(if (!x)=true then c else d))=(x||!c):=by cases x<;>rfl
theorem or_gdo2 {x c d:Bool}:(x||(if (!x)=true then c else d))=(x||c):=by cases x<;>rfl
theorem and_gdo {x c d:Bool}:(x&&(if x=true then c else d))=(x&&c):=by cases x<;>rfl
namespace M
variable {α β γ σ ρ:Type}
theorem le_det {m:M α} {p:Prop} {v:α} (h:p→m=pure v):le m (det p v):=fun hp=>by
 rw [h hp];exact ⟨trivial,fun _ hy=>hy⟩
theorem le_detR {m:M α} {p:Prop} {v:α} (h:p→Ret m fun y=>y=v):le m (det p v):=fun hp=>h hp
theorem val_det {p:Prop} {v d:α}:(det p v).val d=v:=by
 unfold val
 have h:∃ x,(det p v).out x:=⟨v,rfl⟩
 rw [dif_pos h]
 exact h.choose_spec
theorem val_pure {v d:α}:(pure v).val d=v:=val_det (p:=True)
theorem safe_det {p:Prop} {v:α}:(det p v).safe=p:=rfl
theorem det_det {p:Prop} {v:α}:(det p v).Det:=fun _ _ h k=>h.trans k.symm
theorem gdo_det {g:Bool} {p:Prop} {v d:α}:gdo g (det p v) d=det (g=true→p) (if g=true then v else d):=by
 cases g
 ·exact (det_true (by simp) _).symm
 ·simp [gdo]
theorem gdo_pure {g:Bool} {v d:α}:gdo g (pure v) d=pure (if g=true then v else d):=by cases g<;>rfl
theorem go_next {f:σ→M β} {x:σ}:Step.go f (.next x:Step σ β)=f x:=rfl
theorem go_done {f:σ→M β} {r:β}:Step.go f (.done r:Step σ β)=pure r:=rfl
end M
def foldS {α β ρ:Type} (f:α→β→Step β ρ) (fin:β→ρ):List α→β→ρ
 | [],b=>fin b
 | x::l,b=>match f x b with
  | .next b'=>foldS f fin l b'
  | .done r=>r
def Step.mapN {σ β ρ:Type} (g:β→σ):Step β ρ→Step σ ρ
 | .next b=>.next (g b)
 | .done r=>.done r
theorem M.loop_list {α β σ ρ:Type} {body:σ→M (Step σ ρ)} {s0:σ} (l:List α) (mk:Nat→β→σ) (f:α→β→Step β ρ) (fin:β→ρ) (I:Nat→β→Prop) (b:β) (hs0:s0=mk 0 b) (h0:I 0 b)
  (hs:∀ i (h:i<l.length) b,I i b→body (mk i b)=M.pure (Step.mapN (mk (i+1)) (f l[i] b))∧∀ b',f l[i] b=.next b'→I (i+1) b')
  (hf:∀ b,I l.length b→body (mk l.length b)=M.pure (.done (fin b))):M.loop body s0=M.pure (foldS f fin l b):=by
 subst hs0
 have key:∀ (k:Nat) (r:List α) (b:β),k≤l.length→r=l.drop k→I k b→M.loop body (mk k b)=M.pure (foldS f fin r b):=by
  intro k r
  induction r generalizing k with
  | nil=>
   intro b hk hr hI
   have:k=l.length:=by have:=congrArg List.length hr;simp at this;omega
   subst this
   exact M.loop_done (hf b hI)
  | cons x r ih=>
   intro b hk hr hI
   have hlt:k<l.length:=by
    rcases Nat.lt_or_ge k l.length with h | h
    ·exact h
    ·rw [List.drop_eq_nil_of_le h] at hr;cases hr
   rw [List.drop_eq_getElem_cons hlt] at hr
   injection hr with hx hr
   obtain ⟨h1,h2⟩:=hs k hlt b hI
   rw [←hx] at h1 h2
   simp only [foldS]
   cases hf':f x b with
   | next b'=>
    rw [hf'] at h1
    rw [M.loop_next h1]
    exact ih (k+1) b' hlt hr (h2 b' hf')
   | done r'=>
    rw [hf'] at h1
    exact M.loop_done h1
 exact key 0 l b (Nat.zero_le _) rfl h0
theorem M.loop_listT {α β σ ρ:Type} {body:σ→M (Step σ ρ)} {s0:σ} (l:List α) (mk:Nat→β→σ) (f:α→β→Step β ρ) (fin:β→ρ) (b:β) (hs0:s0=mk 0 b)
  (hs:∀ i (h:i<l.length) b,body (mk i b)=M.pure (Step.mapN (mk (i+1)) (f l[i] b)))
  (hf:∀ b,body (mk l.length b)=M.pure (.done (fin b))):M.loop body s0=M.pure (foldS f fin l b):=
 M.loop_list l mk f fin (fun _ _=>True) b hs0 trivial (fun i h b _=>⟨hs i h b,fun _ _=>trivial⟩) fun b _=>hf b
section
variable {α β ρ:Type}
theorem foldS_any {p:α→Bool} {r:ρ} {fin:β→ρ}:∀ (l:List α) (b:β),foldS (fun x b=>if p x=true then .done r else .next b) fin l b=if l.any p=true then r else fin b
 | [],b=>by simp [foldS]
 | x::l,b=>by
  simp only [foldS,List.any_cons,Bool.or_eq_true]
  by_cases h:p x=true
  ·simp [h]
  ·have h:p x=false:=by simpa using h
   simp only [h,Bool.false_eq_true,if_false,false_or];exact foldS_any l b
theorem foldS_next {h:β→α→β} {fin:β→ρ}:∀ (l:List α) (b:β),foldS (fun x b=>.next (h b x)) fin l b=fin (l.foldl h b)
 | [],b=>rfl
 | x::l,b=>by simp only [foldS,List.foldl_cons];exact foldS_next l (h b x)
theorem foldl_filter_app {p:α→Bool}:∀ (l:List α) (b:List α),l.foldl (fun b x=>if p x=true then b++[x] else b) b=b++l.filter p
 | [],b=>by simp
 | x::l,b=>by
  simp only [List.foldl_cons,List.filter_cons]
  rw [foldl_filter_app l]
  split<;>simp
theorem foldl_map_app {γ:Type} {g:α→γ}:∀ (l:List α) (b:List γ),l.foldl (fun b x=>b++[g x]) b=b++l.map g
 | [],b=>by simp
 | x::l,b=>by simp only [List.foldl_cons,List.map_cons];rw [foldl_map_app l];simp
end
theorem any_not {α:Type} {p q:α→Bool} (h:∀ x,p x=!q x) (l:List α):l.any p=!l.all q:=by
 rw [show p=fun x=>!q x from funext h,List.not_all_eq_any_not]
theorem foldS_anyN {α β ρ:Type} {p q:α→Bool} {r:ρ} {fin:β→ρ} (l:List α) (b:β) (h:∀ x,p x=!q x):foldS (fun x b=>if p x=true then .done r else .next b) fin l b=if l.all q=true then fin b else r:=by
 rw [foldS_any,any_not h]
 cases l.all q<;>rfl
theorem lt_len {l:Nat} {i:Nat} (h:i<l):decide ((i:Int)<(l:Int))=true:=by simpa using h
theorem in_len {l:Nat} {i:Nat} (h:i<l):((0:Int)≤(i:Int)∧(i:Int)<(l:Int))=True:=by simp;omega
theorem getD_nat {α:Type} {l:List α} {i:Nat} {d:α} (h:i<l.length):l.getD (Int.toNat (i:Int)) d=l[i]:=by
 simp [List.getD_eq_getElem?_getD,h]
end Go.Fer
namespace Go.Fer
open M (Step)
set_option linter.unusedVariables false
set_option maxRecDepth 100000
abbrev Str:Type:=List UInt8
abbrev _root_.Prod.q5 {A0 A1 A2 A3 A4 A5 A6:Type} (x:A0×A1×A2×A3×A4×A5×A6):A5:=x.2.2.2.2.2.1
abbrev _root_.Prod.q6 {A0 A1 A2 A3 A4 A5 A6 A7:Type} (x:A0×A1×A2×A3×A4×A5×A6×A7):A6:=x.2.2.2.2.2.2.1
abbrev _root_.Prod.q7 {A0 A1 A2 A3 A4 A5 A6 A7 A8:Type} (x:A0×A1×A2×A3×A4×A5×A6×A7×A8):A7:=x.2.2.2.2.2.2.2.1
def S_files_Write (c_slices_ContainsFunc_string_string:List Str×(List UInt8→M Bool)→M Bool) (c_files_file:List Str→M Str) (c_files_Write_c1:List UInt8→M Bool) (x:List Str):M (List UInt8×Int):=
 if decide (Int.ofNat (List.length x) > 40)=true then M.pure ([],2) else M.bind (c_slices_ContainsFunc_string_string (x,c_files_Write_c1)) fun y
 =>if y=true then M.pure ([],1) else M.bind (c_files_file x) fun y=>M.pure (y,0)
def S_files_Read (c_files_read:List UInt8→M (List Str×List Int×Int)) (x:List UInt8):M (List Str×List Int×Int):=
 M.bind (c_files_read x) fun y=>M.bind (M.loop (fun (σ:List Str×Int×List Int×Int×Int×List Int×Unit)=>if decide (σ.2.2.2.2.1 <
 σ.2.2.2.1)=true then M.bind (M.req (0≤σ.2.2.2.2.1∧σ.2.2.2.2.1<Int.ofNat (List.length σ.2.2.1)) (if decide (List.getD σ.2.2.1 (Int.toNat
 σ.2.2.2.2.1) (0:Int)≠-1)=true then M.req (lenLe (Add.add (List.length σ.q5) (Add.add 0 1))) (M.pure (Step.next (σ.1,σ.2.1,σ.2.2.1,σ.2.2.2.1,
 σ.2.2.2.2.1,σ.q5++[σ.2.2.2.2.1],()))) else M.pure (Step.next (σ.1,σ.2.1,σ.2.2.1,σ.2.2.2.1,σ.2.2.2.2.1,σ.q5,())))) (Step.go fun (σ:List
 Str×Int×List Int×Int×Int×List Int×Unit)=>M.pure (Step.next (σ.1,σ.2.1,σ.2.2.1,σ.2.2.2.1,IntKind.wrap .i64 (Add.add σ.2.2.2.2.1 1),
 σ.q5,()))) else M.bind (M.pure (Step.next (σ.1,σ.2.1,σ.q5,()))) fun r=>M.pure (Step.done r)) (y.1,y.2.2,y.2.1,Int.ofNat (List.length y.2.1),
 0,[],())) (Step.go fun (σ:List Str×Int×List Int×Unit)=>M.pure (σ.1,σ.2.2.1,σ.2.1))
def S_files_Damage (c_files_read:List UInt8→M (List Str×List Int×Int)) (x:List UInt8):M (List Int×Int):=
 M.bind (c_files_read x) fun y=>M.pure y.2
def S_files_Check (c_io_cut:List UInt8×List (Nat×List Int)×Unit→M (Bool×List (List (Nat×Nat×Nat))×List (Nat×List Int)×Unit)) (c_io_look:List (Nat×Nat×Nat)×List (Nat×List Int)×Unit→M (Int×(Int×Int)×List (Nat×List Int)×Unit)) (x:List UInt8):M (Int×Int×Int):=
 M.bind (c_io_cut (x,[],())) fun y=>if (!y.1)=true then M.pure (0,0,140) else M.bind (M.loop (fun (σ:Int×Int×Int×List (List (Nat×Nat
 ×Nat))×List (Nat×List Int)×Unit)=>if decide (σ.2.2.1<σ.2.1)=true then M.bind (M.req (0≤σ.2.2.1∧σ.2.2.1<Int.ofNat (List.length
 σ.2.2.2.1)) (M.bind (c_io_look (List.getD σ.2.2.2.1 (Int.toNat σ.2.2.1) [],σ.2.2.2.2.1,())) fun y=>if decide (y.1≠0)=true then M.pure
 (Step.next (IntKind.wrap .i64 (Add.add σ.1 1),σ.2.1,σ.2.2.1,σ.2.2.2.1,y.2.2.1,())) else M.pure (Step.next (σ.1,σ.2.1,σ.2.2.1,σ.2.2.2.1,
 y.2.2.1,())))) (Step.go fun (σ:Int×Int×Int×List (List (Nat×Nat×Nat))×List (Nat×List Int)×Unit)=>M.pure (Step.next (σ.1,σ.2.1,
 IntKind.wrap .i64 (Add.add σ.2.2.1 1),σ.2.2.2.1,σ.2.2.2.2.1,()))) else M.bind (M.pure (Step.next (σ.1,σ.2.2.2.1,σ.2.2.2.2.1,()))) fun r=>
 M.pure (Step.done r)) (0,Int.ofNat (List.length y.2.1),0,y.2.1,y.2.2.1,())) (Step.go fun (σ:Int×List (List (Nat×Nat×Nat))×List (Nat×
 List Int)×Unit)=>M.pure (Int.ofNat (List.length σ.2.1),σ.1,0))
def S_files_Join (c_io_cut:List UInt8×List (Nat×List Int)×Unit→M (Bool×List (List (Nat×Nat×Nat))×List (Nat×List Int)×Unit)) (c_io_look:List (Nat×Nat×Nat)×List (Nat×List Int)×Unit→M (Int×(Int×Int)×List (Nat×List Int)×Unit)) (p_files_block_text:List (List Int)→Prop) (g_files_block_text:List (List Int)→List UInt8) (p_files_unpack:List (List (List Int))→Prop) (g_files_unpack:List (List (List Int))→List Str×Bool) (x:List UInt8×List UInt8):M (List Str×Int):=
 M.bind (c_io_cut (x.1,[],())) fun y=>M.bind (c_io_cut (x.2,y.2.2.1,())) fun y_1=>if (!y.1||!y_1.1||decide (Int.ofNat (List.length y.2.1)
 ≠Int.ofNat (List.length y_1.2.1)))=true then M.pure ([],140) else M.bind (M.loop (fun (σ:Int×Int×List (List (Nat×Nat×Nat))×List (List
 (Nat×Nat×Nat))×List (Nat×List Int)×Unit)=>if decide (σ.2.1<σ.1)=true then M.bind (M.req (0≤σ.2.1∧σ.2.1<Int.ofNat (List.length
 σ.2.2.1)) (M.bind (c_io_look (List.getD σ.2.2.1 (Int.toNat σ.2.1) [],σ.2.2.2.2.1,())) fun y=>M.req (0≤σ.2.1∧σ.2.1<Int.ofNat (List.length
 σ.2.2.2.1)) (M.bind (c_io_look (List.getD σ.2.2.2.1 (Int.toNat σ.2.1) [],y.2.2.1,())) fun y_2=>if (decide (y.1=2)&&decide (y_2.1=2))=true
 then M.bind (M.bind (M.bind (M.pure ([],141)) fun r=>M.pure (Step.done r)) fun r=>M.pure (Step.done r)) fun r=>M.pure (Step.done r) else if
 decide (y.1=2)=true then M.req (0≤σ.2.1∧σ.2.1<Int.ofNat (List.length σ.2.2.2.1)) (M.req (0≤σ.2.1∧σ.2.1<Int.ofNat (List.length
 σ.2.2.1)) (M.pure (Step.next (σ.1,σ.2.1,List.set σ.2.2.1 (Int.toNat σ.2.1) (List.getD σ.2.2.2.1 (Int.toNat σ.2.1) []),σ.2.2.2.1,y_2.2.2.1,()))))
 else M.req (decide (y_2.1≠2)=true→(decide (y_2.1≠2)=true∧True)∧(RawOk (Ty.int .u8) y_2.2.2.1 (Ty.slice (Ty.raws (Ty.int .u8)))
 (List.getD σ.2.2.1 (Int.toNat σ.2.1) [])∧p_files_block_text (deref (Ty.int .u8) y_2.2.2.1 (Ty.slice (Ty.raws (Ty.int .u8))) (List.getD σ.2.2.1
 (Int.toNat σ.2.1) [])))∧True) (M.req (decide (y_2.1≠2)=true→(decide (y_2.1≠2)=true∧decide (y_2.1≠2)=true)∧(0≤σ.2.1∧σ.2.1 <
 Int.ofNat (List.length σ.2.2.2.1))∧True) (M.req (decide (y_2.1≠2)=true→decide (y_2.1≠2)=true∧True∧True) (M.req (decide (y_2.1≠2)=
 true→(decide (y_2.1≠2)=true∧True)∧(RawOk (Ty.int .u8) y_2.2.2.1 (Ty.slice (Ty.raws (Ty.int .u8))) (List.getD σ.2.2.2.1 (Int.toNat σ.2.1)
 [])∧p_files_block_text (deref (Ty.int .u8) y_2.2.2.1 (Ty.slice (Ty.raws (Ty.int .u8))) (List.getD σ.2.2.2.1 (Int.toNat σ.2.1) [])))∧True) (M.req
 (decide (y_2.1≠2)=true→(decide (y_2.1≠2)=true∧decide (y_2.1≠2)=true)∧True∧True) (M.req (True∧(decide (y_2.1≠2)=true→
 decide (y_2.1≠2)=true)) (if (decide (y_2.1≠2)&&decide (g_files_block_text (deref (Ty.int .u8) y_2.2.2.1 (Ty.slice (Ty.raws (Ty.int .u8)))
 (List.getD σ.2.2.1 (Int.toNat σ.2.1) []))≠g_files_block_text (deref (Ty.int .u8) y_2.2.2.1 (Ty.slice (Ty.raws (Ty.int .u8))) (List.getD σ.2.2.2.1
 (Int.toNat σ.2.1) []))))=true then M.bind (M.bind (M.bind (M.pure ([],143)) fun r=>M.pure (Step.done r)) fun r=>M.pure (Step.done r)) fun r=>
 M.pure (Step.done r) else M.pure (Step.next (σ.1,σ.2.1,σ.2.2.1,σ.2.2.2.1,y_2.2.2.1,()))))))))))) (Step.go fun (σ:Int×Int×List (List (Nat×
 Nat×Nat))×List (List (Nat×Nat×Nat))×List (Nat×List Int)×Unit)=>M.pure (Step.next (σ.1,IntKind.wrap .i64 (Add.add σ.2.1 1),σ.2.2.1,
 σ.2.2.2.1,σ.2.2.2.2.1,()))) else M.bind (M.pure (Step.next (σ.2.2.1,σ.2.2.2.2.1,()))) fun r=>M.pure (Step.done r)) (Int.ofNat (List.length
 y.2.1),0,y.2.1,y_1.2.1,y_1.2.2.1,())) (Step.go fun (σ:List (List (Nat×Nat×Nat))×List (Nat×List Int)×Unit)=>M.req (RawOk (Ty.int
 .u8) σ.2.1 (Ty.slice (Ty.slice (Ty.raws (Ty.int .u8)))) σ.1∧p_files_unpack (deref (Ty.int .u8) σ.2.1 (Ty.slice (Ty.slice (Ty.raws (Ty.int .u8))))
 σ.1)) (if (!(g_files_unpack (deref (Ty.int .u8) σ.2.1 (Ty.slice (Ty.slice (Ty.raws (Ty.int .u8)))) σ.1)).2)=true then M.pure ([],142) else M.pure
 ((g_files_unpack (deref (Ty.int .u8) σ.2.1 (Ty.slice (Ty.slice (Ty.raws (Ty.int .u8)))) σ.1)).1,0)))
def S_slices_ContainsFunc_string_string (c_slices_IndexFunc_string_string:List Str×(List UInt8→M Bool)→M Int) (x:List Str×(List UInt8→M Bool)):M Bool:=
 M.bind (c_slices_IndexFunc_string_string x) fun y=>M.pure (decide (y≥0))
def S_files_Write_c1 (c_f29:List UInt8→M Bool) (x:List UInt8):M Bool:=
 M.bind (gdo (!decide (Int.ofNat (List.length x) > 60)) (c_f29 x) false) fun y=>M.pure (decide (Int.ofNat (List.length x) > 60)||!y)
def S_files_file (c_files_block_text:List (List Int)→M Str) (c_slices_Chunk_string_string:List Str×Int→M (List (List Str)→Prop)) (c_io_wstr:List UInt8×List Int×Unit→M (Int×List Int×Unit)) (c_files_makeBlock:List Str→M (List (List Int))) (c_io_bstr:List Int×Unit→M (List UInt8×Unit)) (x:List Str):M Str:=
 M.bind (M.pure (Step.next (x,[],()))) (Step.go fun (σ:List Str×List Int×Unit)=>M.bind (c_slices_Chunk_string_string (σ.1,8)) fun y=>
 M.bind (M.any y) fun L=>M.bind (rounds (fun (σ:List Int×Unit) (y:List Str)=>M.bind (M.bind (c_files_makeBlock y) fun y=>M.bind
 (c_files_block_text y) fun y=>M.bind (c_io_wstr (y,σ.1,())) fun y=>M.pure (Ex.normal,y.2.1,())) fun p=>M.pure (p.1,p.2.1,())) L (σ.2.1,
 ())) fun p=>exC (M.bind (c_io_bstr (p.2.1,())) fun y=>M.pure y.1) (fun id=>if id=0 then M.bind (c_io_bstr (p.2.1,())) fun y=>M.pure y.1
 else M.fail) M.fail p.1)
def S_files_read (c_io_cut:List UInt8×List (Nat×List Int)×Unit→M (Bool×List (List (Nat×Nat×Nat))×List (Nat×List Int)×Unit)) (c_io_look:List (Nat×Nat×Nat)×List (Nat×List Int)×Unit→M (Int×(Int×Int)×List (Nat×List Int)×Unit)) (p_files_block_text:List (List Int)→Prop) (g_files_block_text:List (List Int)→List UInt8) (p_files_unpack:List (List (List Int))→Prop) (g_files_unpack:List (List (List Int))→List Str×Bool) (x:List UInt8):M (List Str×List Int×Int):=
 M.bind (c_io_cut (x,[],())) fun y=>if (!y.1)=true then M.pure ([],[],140) else M.bind (M.loop (fun (σ:Int×Int×Int×List Int×List
 (List (Nat×Nat×Nat))×List (Nat×List Int)×Unit)=>if decide (σ.2.2.1<σ.2.1)=true then M.req (0≤σ.2.2.1∧σ.2.2.1<Int.ofNat
 (List.length σ.2.2.2.2.1)) (M.bind (M.bind (c_io_look (List.getD σ.2.2.2.2.1 (Int.toNat σ.2.2.1) [],σ.q5,())) fun y=>if decide (y.1=2)=true
 then M.bind (M.bind (M.bind (M.pure ([],[],141)) fun r=>M.pure (Step.done r)) fun r=>M.pure (Step.done r)) fun r=>M.pure (Step.done r) else
 if decide (y.1=1)=true then M.req ((0:Int)≤0∧0<Int.ofNat (List.length (List.getD σ.2.2.2.2.1 (Int.toNat σ.2.2.1) []))) (M.pure (Step.next
 (σ.1,List.getD σ.2.2.2.2.1 (Int.toNat σ.2.2.1) [],IntKind.wrap .i64 (Add.add (IntKind.wrap .i64 (Add.add σ.1 (IntKind.wrap .i64 (y.2.1.1 *
 IntKind.wrap .i64 (Add.add (Int.ofNat (List.getD (List.getD σ.2.2.2.2.1 (Int.toNat σ.2.2.1) []) (Int.toNat 0) (0,0,0)).2.2) 1))))) y.2.1.2),σ.2.1,
 σ.2.2.1,σ.2.2.2.1,σ.2.2.2.2.1,y.2.2.1,()))) else M.pure (Step.next (σ.1,List.getD σ.2.2.2.2.1 (Int.toNat σ.2.2.1) [],-1,σ.2.1,σ.2.2.1,
 σ.2.2.2.1,σ.2.2.2.2.1,y.2.2.1,()))) (Step.go fun (σ:Int×List (Nat×Nat×Nat)×Int×Int×Int×List Int×List (List (Nat×Nat×Nat))×
 List (Nat×List Int)×Unit)=>M.req (lenLe (Add.add (List.length σ.q5) (Add.add 0 1))) (M.req (RawOk (Ty.int .u8) σ.q7 (Ty.slice (Ty.raws (Ty.int
 .u8))) σ.2.1∧p_files_block_text (deref (Ty.int .u8) σ.q7 (Ty.slice (Ty.raws (Ty.int .u8))) σ.2.1)) (M.pure (Step.next (IntKind.wrap .i64 (Add.add
 σ.1 (Int.ofNat (List.length (g_files_block_text (deref (Ty.int .u8) σ.q7 (Ty.slice (Ty.raws (Ty.int .u8))) σ.2.1))))),σ.2.2.2.1,IntKind.wrap .i64
 (Add.add σ.2.2.2.2.1 1),σ.q5++[σ.2.2.1],σ.q6,σ.q7,())))))) else M.bind (M.pure (Step.next (σ.2.2.2.1,σ.2.2.2.2.1,σ.q5,()))) fun r=>M.pure
 (Step.done r)) (0,Int.ofNat (List.length y.2.1),0,[],y.2.1,y.2.2.1,())) (Step.go fun (σ:List Int×List (List (Nat×Nat×Nat))×List (Nat
 ×List Int)×Unit)=>M.req (RawOk (Ty.int .u8) σ.2.2.1 (Ty.slice (Ty.slice (Ty.raws (Ty.int .u8)))) σ.2.1∧p_files_unpack (deref (Ty.int .u8)
 σ.2.2.1 (Ty.slice (Ty.slice (Ty.raws (Ty.int .u8)))) σ.2.1)) (if (!(g_files_unpack (deref (Ty.int .u8) σ.2.2.1 (Ty.slice (Ty.slice (Ty.raws (Ty.int
 .u8)))) σ.2.1)).2)=true then M.pure ([],[],142) else M.pure ((g_files_unpack (deref (Ty.int .u8) σ.2.2.1 (Ty.slice (Ty.slice (Ty.raws (Ty.int
 .u8)))) σ.2.1)).1,σ.1,0)))
def S_files_block_text (c_io_bstr:List Int×Unit→M (List UInt8×Unit)) (c_io_write:List Int×List Int×Unit→M (Int×List Int×Unit)) (c_io_wbyte:Int×List Int×Unit→M (List Int×Unit)) (x:List (List Int)):M Str:=
 M.bind (M.pure (Step.next (x,[],()))) (Step.go fun (σ:List (List Int)×List Int×Unit)=>M.bind (M.loop (fun (σ:List (List Int)×Int×Int
 ×List Int×Unit)=>if decide (σ.2.2.1<σ.2.1)=true then M.req (0≤σ.2.2.1∧σ.2.2.1<Int.ofNat (List.length σ.1)) (M.bind (c_io_write
 (List.getD σ.1 (Int.toNat σ.2.2.1) [],σ.2.2.2.1,())) fun y=>M.bind (c_io_wbyte (10,y.2.1,())) fun y=>M.pure (Step.next (σ.1,σ.2.1,
 IntKind.wrap .i64 (Add.add σ.2.2.1 1),y.1,()))) else M.bind (M.pure (Step.next (σ.2.2.2.1,()))) fun r=>M.pure (Step.done r)) (σ.1,Int.ofNat
 (List.length σ.1),0,σ.2.1,())) (Step.go fun (σ:List Int×Unit)=>M.bind (c_io_wbyte (10,σ.1,())) fun y=>M.bind (c_io_bstr (y.1,())) fun y
 =>M.pure y.1))
def S_files_unpack (c_files_Write:List Str→M (List UInt8×Int)) (c_files_block_text:List (List Int)→M Str) (c_io_wstr:List UInt8×List Int×Unit→M (Int×List Int×Unit)) (c_io_bstr:List Int×Unit→M (List UInt8×Unit)) (c_files_block_texts:List (List Int)→M (List Str)) (x:List (List (List Int))):M (List Str×Bool):=
 M.bind (M.pure (Step.next (x,[],[],()))) (Step.go fun (σ:List (List (List Int))×List Str×List Int×Unit)=>M.bind (M.loop (fun (σ:List
 (List (List Int))×Int×Int×List Str×List Int×Unit)=>if decide (σ.2.2.1<σ.2.1)=true then M.req (0≤σ.2.2.1∧σ.2.2.1<Int.ofNat
 (List.length σ.1)) (M.bind (c_files_block_texts (List.getD σ.1 (Int.toNat σ.2.2.1) [])) fun y=>M.req (lenLe (Add.add (List.length σ.2.2.2.1)
 (List.length y))) (M.bind (c_files_block_text (List.getD σ.1 (Int.toNat σ.2.2.1) [])) fun y_1=>M.bind (c_io_wstr (y_1,σ.2.2.2.2.1,())) fun y_2=>
 M.pure (Step.next (σ.1,σ.2.1,IntKind.wrap .i64 (Add.add σ.2.2.1 1),σ.2.2.2.1++y,y_2.2.1,())))) else M.bind (M.pure (Step.next (σ.2.2.2.1,
 σ.2.2.2.2.1,()))) fun r=>M.pure (Step.done r)) (σ.1,Int.ofNat (List.length σ.1),0,σ.2.1,σ.2.2.1,())) (Step.go fun (σ:List Str×List Int×
 Unit)=>M.bind (c_files_Write σ.1) fun y=>if decide (y.2=0)=true then M.req True (M.bind (c_io_bstr (σ.2.1,())) fun y_1=>M.req (decide (y.2
 =0)=true→(decide (y.2=0)=true∧True)∧True∧True) (M.pure (σ.1,decide (y.2=0)&&decide (y.1=y_1.1)))) else M.req (decide (y.2=0)
 =true→(decide (y.2=0)=true∧false=true)∧True∧True) (M.pure (σ.1,decide (y.2=0)&&decide (y.1=[])))))
def S_slices_IndexFunc_string_string (x:List Str×(List UInt8→M Bool)):M Int:=
 M.bind (M.loop (fun (σ:List Str×(List UInt8→M Bool)×Int×Int×Unit)=>if decide (σ.2.2.2.1<σ.2.2.1)=true then M.req (0≤σ.2.2.2.1∧
 σ.2.2.2.1<Int.ofNat (List.length σ.1)) (M.bind (σ.2.1 (List.getD σ.1 (Int.toNat σ.2.2.2.1) [])) fun y=>if y=true then M.bind (M.bind (M.pure
 σ.2.2.2.1) fun r=>M.pure (Step.done r)) fun r=>M.pure (Step.done r) else M.pure (Step.next (σ.1,σ.2.1,σ.2.2.1,IntKind.wrap .i64 (Add.add
 σ.2.2.2.1 1),()))) else M.bind (M.pure (Step.next ())) fun r=>M.pure (Step.done r)) (x.1,x.2,Int.ofNat (List.length x.1),0,())) (Step.go fun (σ
 : Unit)=>M.pure (-1))
def S_slices_Chunk_string_string (its_66:Option (List Str)×Option Int→List (List Str)→Prop) (x:List Str×Int):M (List (List Str)→Prop):=
 M.bind (if decide (x.2<1)=true then M.req False (M.req False (M.pure (Step.next (x.1,x.2,())))) else M.pure (Step.next (x.1,x.2,())))
 (Step.go fun (σ:List Str×Int×Unit)=>M.pure (its_66 (some σ.1,some σ.2.1)))
def S_files_makeBlock (c_files_check:List Int→M Int) (c_io_column:Int×Int×List (List Int)×Unit→M (List Int×List (List Int)×Unit)) (c_files_written:Int→M Int) (c_f69:List UInt8×Int→M Str) (x:List Str):M (List (List Int)):=
 M.bind (M.loop (fun (σ:List Str×Int×List Str×Int×Int×List (List Int)×Unit)=>if decide (σ.2.2.2.2.1<σ.2.2.2.1)=true then M.req (0
 ≤σ.2.2.2.2.1∧σ.2.2.2.2.1<Int.ofNat (List.length σ.2.2.1)) (M.pure (Step.next (σ.1,if Int.ofNat (List.length (List.getD σ.2.2.1 (Int.toNat
 σ.2.2.2.2.1) [])) > σ.2.1 then Int.ofNat (List.length (List.getD σ.2.2.1 (Int.toNat σ.2.2.2.2.1) [])) else σ.2.1,σ.2.2.1,σ.2.2.2.1,IntKind.wrap
 .i64 (Add.add σ.2.2.2.2.1 1),σ.q5,()))) else M.bind (M.pure (Step.next (σ.1,σ.2.1,σ.q5,()))) fun r=>M.pure (Step.done r)) (x,0,x,Int.ofNat
 (List.length x),0,[],())) (Step.go fun (σ:List Str×Int×List (List Int)×Unit)=>M.bind (M.loop (fun (σ:Int×List Str×Int×Int×List
 (List Int)×Unit)=>if decide (σ.2.2.2.1<σ.2.2.1)=true then M.req (0≤σ.2.2.2.1∧σ.2.2.2.1<Int.ofNat (List.length σ.2.1)) (M.bind
 (c_files_written (Int.ofNat (List.length (List.getD σ.2.1 (Int.toNat σ.2.2.2.1) [])))) fun y=>M.bind (c_f69 ([32],IntKind.wrap .i64 (σ.1 -
 Int.ofNat (List.length (List.getD σ.2.1 (Int.toNat σ.2.2.2.1) []))))) fun y_1=>M.req (lenLe (Add.add (List.length (List.getD σ.2.1 (Int.toNat
 σ.2.2.2.1) [])) (List.length y_1))) (M.req (lenLe (Add.add (Add.add 0 1) (List.length (numsOf (List.getD σ.2.1 (Int.toNat σ.2.2.2.1) []++y_1)))))
 (M.bind (c_files_check ([y]++numsOf (List.getD σ.2.1 (Int.toNat σ.2.2.2.1) []++y_1))) fun y_2=>M.req (lenLe (Add.add (Add.add (List.length
 (numsOf (List.getD σ.2.1 (Int.toNat σ.2.2.2.1) []++y_1))) 1) (Add.add 0 1))) (M.req (lenLe (Add.add (List.length σ.2.2.2.2.1) (Add.add 0 1)))
 (M.pure (Step.next (σ.1,σ.2.1,σ.2.2.1,IntKind.wrap .i64 (Add.add σ.2.2.2.1 1),σ.2.2.2.2.1++[[y]++numsOf (List.getD σ.2.1 (Int.toNat
 σ.2.2.2.1) []++y_1)++[y_2]],()))))))) else M.bind (M.pure (Step.next (σ.1,σ.2.2.2.2.1,()))) fun r=>M.pure (Step.done r)) (σ.2.1,σ.1,
 Int.ofNat (List.length σ.1),0,σ.2.2.1,())) (Step.go fun (σ:Int×List (List Int)×Unit)=>M.bind (M.loop (fun (σ:Int×Int×List (List Int)
 ×List Int×Unit)=>if decide (σ.2.1<σ.1)=true then M.bind (c_io_column (σ.2.1,0,σ.2.2.1,())) fun y=>M.bind (c_files_check y.1) fun y_1=>
 M.req (lenLe (Add.add (List.length σ.2.2.2.1) (Add.add 0 1))) (M.pure (Step.next (σ.1,IntKind.wrap .i64 (Add.add σ.2.1 1),y.2.1,σ.2.2.2.1++
 [y_1],()))) else M.bind (M.pure (Step.next (σ.2.2.1,σ.2.2.2.1,()))) fun r=>M.pure (Step.done r)) (IntKind.wrap .i64 (Add.add σ.1 2),0,σ.2.1,
 [],())) (Step.go fun (σ:List (List Int)×List Int×Unit)=>M.req (lenLe (Add.add (List.length σ.1) (Add.add 0 1))) (M.pure (σ.1++[σ.2.1])))))
def S_files_cut_c1 (c_f29:List UInt8→M Bool) (x:List Int×Option Int):M Bool:=
 (M.bind (gdo (!decide (Int.ofNat (List.length x.1)≠Option.getD x.2 0)) (c_f29 (bytesOf x.1)) false) fun y=>M.pure (decide (Int.ofNat (List.length
 x.1)≠Option.getD x.2 0)||!y))
def S_slices_ContainsFunc_files_block_byte (c_slices_IndexFunc_files_block_byte:List (List Int)×(List Int→M Bool)→M Int) (x:List (List Int)×(List Int→M Bool)):M Bool:=
 M.bind (c_slices_IndexFunc_files_block_byte x) fun y=>M.pure (decide (y≥0))
def S_files_check (c_io_add:Int×Int×Unit→M (Int×Unit)) (c_files_sum_char:Int→M Int) (x:List Int):M Int:=
 M.bind (M.loop (fun (σ:List Int×Int×Int×Int×Unit)=>if decide (σ.2.2.1<σ.2.1)=true then M.req (0≤σ.2.2.1∧σ.2.2.1<Int.ofNat
 (List.length σ.1)) (M.bind (c_io_add (List.getD σ.1 (Int.toNat σ.2.2.1) 0,σ.2.2.2.1,())) fun y=>M.pure (Step.next (σ.1,σ.2.1,IntKind.wrap .i64
 (Add.add σ.2.2.1 1),y.1,()))) else M.bind (M.pure (Step.next (σ.2.2.2.1,()))) fun r=>M.pure (Step.done r)) (x,Int.ofNat (List.length x),0,0,
 ())) (Step.go fun (σ:Int×Unit)=>M.bind (c_files_sum_char σ.1) fun y=>M.pure y)
def S_files_block_column (x:List (List Int)×Int×Int):M (List Int):=
 M.bind (M.req ((0:Int)≤0∧0≤IntKind.wrap .i64 (Int.ofNat (List.length x.1) - x.2.2)∧IntKind.wrap .i64 (Int.ofNat (List.length x.1) - x.2.2)
 ≤Int.ofNat (List.length x.1)) (M.loop (fun (σ:Int×List (List Int)×Int×Int×List Int×Unit)=>if decide (σ.2.2.2.1<σ.2.2.1)=true then
 M.req (0≤σ.2.2.2.1∧σ.2.2.2.1<Int.ofNat (List.length σ.2.1)) (M.req (0≤σ.1∧σ.1<Int.ofNat (List.length (List.getD σ.2.1 (Int.toNat
 σ.2.2.2.1) []))) (M.req (lenLe (Add.add (List.length σ.2.2.2.2.1) (Add.add 0 1))) (M.pure (Step.next (σ.1,σ.2.1,σ.2.2.1,IntKind.wrap .i64 (Add.add
 σ.2.2.2.1 1),σ.2.2.2.2.1++[List.getD (List.getD σ.2.1 (Int.toNat σ.2.2.2.1) []) (Int.toNat σ.1) 0],()))))) else M.bind (M.pure (Step.next
 (σ.2.2.2.2.1,()))) fun r=>M.pure (Step.done r)) (x.2.1,List.take (Int.toNat (IntKind.wrap .i64 (Int.ofNat (List.length x.1) - x.2.2))) x.1,
 Int.ofNat (List.length (List.take (Int.toNat (IntKind.wrap .i64 (Int.ofNat (List.length x.1) - x.2.2))) x.1)),0,[],()))) (Step.go fun (σ:List
 Int×Unit)=>M.pure σ.1)
def S_files_printable (x:Unit):M (List Int):=
 M.bind (M.loop (fun (σ:Int×List Int×Unit)=>if decide (σ.1≤126)=true then M.req (lenLe (Add.add (List.length σ.2.1) (Add.add 0 1)))
 (M.pure (Step.next (IntKind.wrap .u8 (Add.add σ.1 1),σ.2.1++[σ.1],()))) else M.bind (M.pure (Step.next (σ.2.1,()))) fun r=>M.pure (Step.done
 r)) (32,[],())) (Step.go fun (σ:List Int×Unit)=>M.pure σ.1)
def S_files_block_texts (x:List (List Int)):M (List Str):=
 M.bind (M.req ((0:Int)≤0∧0≤IntKind.wrap .i64 (Int.ofNat (List.length x) - 1)∧IntKind.wrap .i64 (Int.ofNat (List.length x) - 1)≤Int.ofNat
 (List.length x)) (M.loop (fun (σ:List (List Int)×Int×Int×List Str×Unit)=>if decide (σ.2.2.1<σ.2.1)=true then M.req (0≤σ.2.2.1∧
 σ.2.2.1<Int.ofNat (List.length σ.1)) (M.req ((0:Int)≤0∧0<Int.ofNat (List.length (List.getD σ.1 (Int.toNat σ.2.2.1) []))) (M.req ((0:Int)
 ≤1∧1≤IntKind.wrap .i64 (Add.add 1 (if IntKind.wrap .i64 (Int.ofNat (List.length (List.getD σ.1 (Int.toNat σ.2.2.1) [])) - 2)<IntKind.wrap .i64
 (IntKind.wrap .u8 (List.getD (List.getD σ.1 (Int.toNat σ.2.2.1) []) (Int.toNat 0) 0 - 32)) then IntKind.wrap .i64 (Int.ofNat (List.length (List.getD
 σ.1 (Int.toNat σ.2.2.1) [])) - 2) else IntKind.wrap .i64 (IntKind.wrap .u8 (List.getD (List.getD σ.1 (Int.toNat σ.2.2.1) []) (Int.toNat 0) 0 - 32))))
 ∧IntKind.wrap .i64 (Add.add 1 (if IntKind.wrap .i64 (Int.ofNat (List.length (List.getD σ.1 (Int.toNat σ.2.2.1) [])) - 2)<IntKind.wrap .i64
 (IntKind.wrap .u8 (List.getD (List.getD σ.1 (Int.toNat σ.2.2.1) []) (Int.toNat 0) 0 - 32)) then IntKind.wrap .i64 (Int.ofNat (List.length (List.getD
 σ.1 (Int.toNat σ.2.2.1) [])) - 2) else IntKind.wrap .i64 (IntKind.wrap .u8 (List.getD (List.getD σ.1 (Int.toNat σ.2.2.1) []) (Int.toNat 0) 0 - 32))))
 ≤Int.ofNat (List.length (List.getD σ.1 (Int.toNat σ.2.2.1) []))) (M.req (lenLe (Add.add (List.length σ.2.2.2.1) (Add.add 0 1))) (M.pure (Step.next
 (σ.1,σ.2.1,IntKind.wrap .i64 (Add.add σ.2.2.1 1),σ.2.2.2.1++[bytesOf (List.drop (Int.toNat 1) (List.take (Int.toNat (IntKind.wrap .i64 (Add.add
 1 (if IntKind.wrap .i64 (Int.ofNat (List.length (List.getD σ.1 (Int.toNat σ.2.2.1) [])) - 2)<IntKind.wrap .i64 (IntKind.wrap .u8 (List.getD
 (List.getD σ.1 (Int.toNat σ.2.2.1) []) (Int.toNat 0) 0 - 32)) then IntKind.wrap .i64 (Int.ofNat (List.length (List.getD σ.1 (Int.toNat σ.2.2.1) []))
 - 2) else IntKind.wrap .i64 (IntKind.wrap .u8 (List.getD (List.getD σ.1 (Int.toNat σ.2.2.1) []) (Int.toNat 0) 0 - 32)))))) (List.getD σ.1 (Int.toNat
 σ.2.2.1) [])))],())))))) else M.bind (M.pure (Step.next (σ.2.2.2.1,()))) fun r=>M.pure (Step.done r)) (List.take (Int.toNat (IntKind.wrap .i64
 (Int.ofNat (List.length x) - 1))) x,Int.ofNat (List.length (List.take (Int.toNat (IntKind.wrap .i64 (Int.ofNat (List.length x) - 1))) x)),0,[],
 ()))) (Step.go fun (σ:List Str×Unit)=>M.pure σ.1)
def S_files_written (x:Int):M Int:=
 M.pure (IntKind.wrap .u8 (IntKind.wrap .i64 (Add.add x 32)))
def S_slices_IndexFunc_files_block_byte (x:List (List Int)×(List Int→M Bool)):M Int:=
 M.bind (M.loop (fun (σ:List (List Int)×(List Int→M Bool)×Int×Int×Unit)=>if decide (σ.2.2.2.1<σ.2.2.1)=true then M.req (0≤
 σ.2.2.2.1∧σ.2.2.2.1<Int.ofNat (List.length σ.1)) (M.bind (σ.2.1 (List.getD σ.1 (Int.toNat σ.2.2.2.1) [])) fun y=>if y=true then M.bind
 (M.bind (M.pure σ.2.2.2.1) fun r=>M.pure (Step.done r)) fun r=>M.pure (Step.done r) else M.pure (Step.next (σ.1,σ.2.1,σ.2.2.1,IntKind.wrap
 .i64 (Add.add σ.2.2.2.1 1),()))) else M.bind (M.pure (Step.next ())) fun r=>M.pure (Step.done r)) (x.1,x.2,Int.ofNat (List.length x.1),0,()))
 (Step.go fun (σ:Unit)=>M.pure (-1))
def S_files_sum_char (c_files_written:Int→M Int) (x:Int):M Int:=
 M.bind (c_files_written x) fun y=>M.pure y
def S_io_add (x:Int×Int×Unit):M (Int×Unit):=
 M.req True (M.req ((95:Int)≠0) (M.req True (M.pure (Int.tmod (IntKind.wrap .i64 (IntKind.wrap .i64 (Add.add x.2.1 (IntKind.wrap .i64 x.1)) - 32))
 95,()))))
def S_io_bstr (x:List Int×Unit):M (List UInt8×Unit):=
 M.req True (M.req True (M.req True (M.req (Int.ofNat (List.length x.1)=Int.ofNat (List.length x.1)) (M.pure (bytesOf x.1,())))))
def S_io_cf (c_io_idxf:List Int×(Int×Int)×(Nat×Nat×Nat)×List (Nat×List Int)×Unit→M (Int×(Int×Int)×(Nat×Nat×Nat)×List (Nat×List Int)×Unit)) (x:List Int×(Int×Int)×(Nat×Nat×Nat)×List (Nat×List Int)×Unit):M (Bool×(Int×Int)×(Nat×Nat×Nat)×List (Nat×List Int)×Unit):=
 M.bind (c_io_idxf (x.1,x.2.1,x.2.2.1,x.2.2.2.1,())) fun y=>M.pure (decide (y.1≥0),y.2.1,y.2.2.1,y.2.2.2.1,())
def S_io_chunk (x:Nat×List Str×Int×(Nat×(List (List Str)→Prop)×List (List Str)×Bool)×Unit):M ((Nat×(List (List Str)→Prop)×List (List Str)×Bool)×Unit):=
 M.loop (fun (σ:Nat×List Str×Int×Int×(Nat×(List (List Str)→Prop)×List (List Str)×Bool)×Unit)=>if decide (σ.2.2.2.1<Int.ofNat
 (List.length σ.2.1))=true then M.req (0≤σ.2.2.2.1∧σ.2.2.2.1≤Int.ofNat (List.length σ.2.1)∧Int.ofNat (List.length σ.2.1)≤Int.ofNat
 (List.length σ.2.1)) (M.req (0≤σ.2.2.2.1∧σ.2.2.2.1≤IntKind.wrap .i64 (Add.add σ.2.2.2.1 (if Int.ofNat (List.length (List.drop (Int.toNat
 σ.2.2.2.1) (List.take (Int.toNat (Int.ofNat (List.length σ.2.1))) σ.2.1)))<σ.2.2.1 then Int.ofNat (List.length (List.drop (Int.toNat σ.2.2.2.1)
 (List.take (Int.toNat (Int.ofNat (List.length σ.2.1))) σ.2.1))) else σ.2.2.1))∧IntKind.wrap .i64 (Add.add σ.2.2.2.1 (if Int.ofNat (List.length
 (List.drop (Int.toNat σ.2.2.2.1) (List.take (Int.toNat (Int.ofNat (List.length σ.2.1))) σ.2.1)))<σ.2.2.1 then Int.ofNat (List.length (List.drop
 (Int.toNat σ.2.2.2.1) (List.take (Int.toNat (Int.ofNat (List.length σ.2.1))) σ.2.1))) else σ.2.2.1))=IntKind.wrap .i64 (Add.add σ.2.2.2.1 (if
 Int.ofNat (List.length (List.drop (Int.toNat σ.2.2.2.1) (List.take (Int.toNat (Int.ofNat (List.length σ.2.1))) σ.2.1)))<σ.2.2.1 then Int.ofNat
 (List.length (List.drop (Int.toNat σ.2.2.2.1) (List.take (Int.toNat (Int.ofNat (List.length σ.2.1))) σ.2.1))) else σ.2.2.1))∧IntKind.wrap .i64
 (Add.add σ.2.2.2.1 (if Int.ofNat (List.length (List.drop (Int.toNat σ.2.2.2.1) (List.take (Int.toNat (Int.ofNat (List.length σ.2.1))) σ.2.1))) <
 σ.2.2.1 then Int.ofNat (List.length (List.drop (Int.toNat σ.2.2.2.1) (List.take (Int.toNat (Int.ofNat (List.length σ.2.1))) σ.2.1))) else σ.2.2.1))≤
 Int.ofNat (List.length σ.2.1)) (M.bind (M.req (σ.1=σ.2.2.2.2.1.1∧σ.2.2.2.2.1.2.2.2=false∧∃ (T:List (List Str)),σ.2.2.2.2.1.2.1
 (σ.2.2.2.2.1.2.2.1++List.drop (Int.toNat σ.2.2.2.1) (List.take (Int.toNat (IntKind.wrap .i64 (Add.add σ.2.2.2.1 (if Int.ofNat (List.length
 (List.drop (Int.toNat σ.2.2.2.1) (List.take (Int.toNat (Int.ofNat (List.length σ.2.1))) σ.2.1)))<σ.2.2.1 then Int.ofNat (List.length (List.drop
 (Int.toNat σ.2.2.2.1) (List.take (Int.toNat (Int.ofNat (List.length σ.2.1))) σ.2.1))) else σ.2.2.1)))) σ.2.1)::T)) (M.any fun x=>True)) fun y=>
 if (!y)=true then M.bind (M.pure ((σ.2.2.2.2.1.1,σ.2.2.2.2.1.2.1,σ.2.2.2.2.1.2.2.1++[List.drop (Int.toNat σ.2.2.2.1) (List.take (Int.toNat
 (IntKind.wrap .i64 (Add.add σ.2.2.2.1 (if Int.ofNat (List.length (List.drop (Int.toNat σ.2.2.2.1) (List.take (Int.toNat (Int.ofNat (List.length
 σ.2.1))) σ.2.1)))<σ.2.2.1 then Int.ofNat (List.length (List.drop (Int.toNat σ.2.2.2.1) (List.take (Int.toNat (Int.ofNat (List.length σ.2.1)))
 σ.2.1))) else σ.2.2.1)))) σ.2.1)],!y),())) fun r=>M.pure (Step.done r) else M.pure (Step.next (σ.1,σ.2.1,σ.2.2.1,IntKind.wrap .i64 (Add.add
 σ.2.2.2.1 σ.2.2.1),(σ.2.2.2.2.1.1,σ.2.2.2.2.1.2.1,σ.2.2.2.2.1.2.2.1++[List.drop (Int.toNat σ.2.2.2.1) (List.take (Int.toNat (IntKind.wrap .i64
 (Add.add σ.2.2.2.1 (if Int.ofNat (List.length (List.drop (Int.toNat σ.2.2.2.1) (List.take (Int.toNat (Int.ofNat (List.length σ.2.1))) σ.2.1))) <
 σ.2.2.1 then Int.ofNat (List.length (List.drop (Int.toNat σ.2.2.2.1) (List.take (Int.toNat (Int.ofNat (List.length σ.2.1))) σ.2.1))) else σ.2.2.1))))
 σ.2.1)],!y),())))) else M.bind (M.pure (σ.2.2.2.2.1,())) fun r=>M.pure (Step.done r)) (x.1,x.2.1,x.2.2.1,0,x.2.2.2.1,())
def S_io_column (x:Int×Int×List (List Int)×Unit):M (List Int×List (List Int)×Unit):=
 M.bind (M.req ((0:Int)≤0∧0≤IntKind.wrap .i64 (Int.ofNat (List.length x.2.2.1) - x.2.1)∧IntKind.wrap .i64 (Int.ofNat (List.length x.2.2.1) -
 x.2.1)≤Int.ofNat (List.length x.2.2.1)) (M.loop (fun (σ:Int×(Nat×Nat)×Int×Int×List Int×List (List Int)×Unit)=>if decide
 (σ.2.2.2.1<σ.2.2.1)=true then M.req (0≤σ.2.2.2.1∧σ.2.2.2.1<Int.ofNat (σ.2.1.2 - σ.2.1.1)) (M.req (0≤σ.1∧σ.1<Int.ofNat (List.length
 (List.getD σ.q5 (Add.add σ.2.1.1 (Int.toNat σ.2.2.2.1)) []))) (M.req (lenLe (Add.add (List.length σ.2.2.2.2.1) (Add.add 0 1))) (M.pure (Step.next
 (σ.1,σ.2.1,σ.2.2.1,IntKind.wrap .i64 (Add.add σ.2.2.2.1 1),σ.2.2.2.2.1++[List.getD (List.getD σ.q5 (Add.add σ.2.1.1 (Int.toNat σ.2.2.2.1)) [])
 (Int.toNat σ.1) 0],σ.q5,()))))) else M.bind (M.pure (Step.next (σ.2.2.2.2.1,σ.q5,()))) fun r=>M.pure (Step.done r)) (x.1,(Int.toNat 0,
 Int.toNat (IntKind.wrap .i64 (Int.ofNat (List.length x.2.2.1) - x.2.1))),Int.ofNat (Int.toNat (IntKind.wrap .i64 (Int.ofNat (List.length x.2.2.1) -
 x.2.1)) - Int.toNat 0),0,[],x.2.2.1,()))) (Step.go fun (σ:List Int×List (List Int)×Unit)=>M.pure (σ.1,σ.2.1,()))
def S_io_cut (c_f49:List UInt8×List UInt8→M (List UInt8×List UInt8×Bool)) (c_f50:List UInt8×List UInt8→M (List Str)) (p_slices_ContainsFunc_files_block_byte:List (List Int)×(List Int→M Bool)→Prop) (g_slices_ContainsFunc_files_block_byte:List (List Int)×(List Int→M Bool)→Bool) (c_files_cut_c1:List Int×Option Int→M Bool) (x:List UInt8×List (Nat×List Int)×Unit):M (Bool×List (List (Nat×Nat×Nat))×List (Nat×List Int)×Unit):=
 M.bind (M.loop (fun (σ:List UInt8×List (List (Nat×Nat×Nat))×List (Nat×List Int)×Unit)=>if decide (σ.1≠[])=true then M.bind (c_f49
 (σ.1,[10,10])) fun y=>if (!y.2.2)=true then M.bind (M.bind (M.pure (false,[],σ.2.2.1,())) fun r=>M.pure (Step.done r)) fun r=>M.pure
 (Step.done r) else M.bind (M.bind (c_f50 (y.1,[10])) fun y_1=>M.loop (fun (σ:List UInt8×List Str×Int×Int×List (List (Nat×Nat×Nat))×
 List (Nat×Nat×Nat)×List (Nat×List Int)×Unit)=>if decide (σ.2.2.2.1<σ.2.2.1)=true then M.req (0≤σ.2.2.2.1∧σ.2.2.2.1<Int.ofNat
 (List.length σ.2.1)) (M.bind (M.req (lenLe (List.length (List.getD σ.2.1 (Int.toNat σ.2.2.2.1) []))) (M.any fun id=>¬List.Mem id (List.map (fun x
 =>x.1) σ.q6))) fun y=>M.req (lenLe (Add.add (List.length σ.q5) (Add.add 0 1))) (M.pure (Step.next (σ.1,σ.2.1,σ.2.2.1,IntKind.wrap .i64 (Add.add
 σ.2.2.2.1 1),σ.2.2.2.2.1,σ.q5++[(y,0,List.length (List.getD σ.2.1 (Int.toNat σ.2.2.2.1) []))],(y,numsOf (List.getD σ.2.1 (Int.toNat
 σ.2.2.2.1) []))::σ.q6,())))) else M.bind (M.pure (Step.next (σ.1,σ.2.2.2.2.1,σ.q5,σ.q6,()))) fun r=>M.pure (Step.done r)) (y.2.1,y_1,
 Int.ofNat (List.length y_1),0,σ.2.1,[],σ.2.2.1,())) (Step.go fun (σ:List UInt8×List (List (Nat×Nat×Nat))×List (Nat×Nat×Nat)×List
 (Nat×List Int)×Unit)=>M.req ((0:Int)≤0∧0<Int.ofNat (List.length σ.2.2.1)) (M.req ((!(decide (Int.ofNat (List.length σ.2.2.1)<2)||
 decide (Int.ofNat (List.length σ.2.2.1) > 9)||decide (Int.ofNat (List.getD σ.2.2.1 (Int.toNat 0) (0,0,0)).2.2<2)||decide (Int.ofNat
 (List.getD σ.2.2.1 (Int.toNat 0) (0,0,0)).2.2 > 62)))=true→((!(decide (Int.ofNat (List.length σ.2.2.1)<2)||decide (Int.ofNat (List.length
 σ.2.2.1) > 9)||decide (Int.ofNat (List.getD σ.2.2.1 (Int.toNat 0) (0,0,0)).2.2<2)||decide (Int.ofNat (List.getD σ.2.2.1 (Int.toNat 0) (0,0,
 0)).2.2 > 62)))=true∧(!(decide (Int.ofNat (List.length σ.2.2.1)<2)||decide (Int.ofNat (List.length σ.2.2.1) > 9)||decide (Int.ofNat
 (List.getD σ.2.2.1 (Int.toNat 0) (0,0,0)).2.2<2)||decide (Int.ofNat (List.getD σ.2.2.1 (Int.toNat 0) (0,0,0)).2.2 > 62)))=true∧True)∧
 (RawOk (Ty.int .u8) σ.2.2.2.1 (Ty.prod (Ty.slice (Ty.raws (Ty.int .u8))) (Ty.fn (Ty.slice (Ty.int .u8)) Ty.bool)) (σ.2.2.1,fun x=>c_files_cut_c1
 (x,some (Int.ofNat (List.getD σ.2.2.1 (Int.toNat 0) (0,0,0)).2.2)))∧p_slices_ContainsFunc_files_block_byte (deref (Ty.int .u8) σ.2.2.2.1
 (Ty.prod (Ty.slice (Ty.raws (Ty.int .u8))) (Ty.fn (Ty.slice (Ty.int .u8)) Ty.bool)) (σ.2.2.1,fun x=>c_files_cut_c1 (x,some (Int.ofNat (List.getD
 σ.2.2.1 (Int.toNat 0) (0,0,0)).2.2)))))∧True) (if (decide (Int.ofNat (List.length σ.2.2.1)<2)||decide (Int.ofNat (List.length σ.2.2.1) > 9)
 ||decide (Int.ofNat (List.getD σ.2.2.1 (Int.toNat 0) (0,0,0)).2.2<2)||decide (Int.ofNat (List.getD σ.2.2.1 (Int.toNat 0) (0,0,0)).2.2 > 62)
 ||g_slices_ContainsFunc_files_block_byte (deref (Ty.int .u8) σ.2.2.2.1 (Ty.prod (Ty.slice (Ty.raws (Ty.int .u8))) (Ty.fn (Ty.slice (Ty.int .u8))
 Ty.bool)) (σ.2.2.1,fun x=>c_files_cut_c1 (x,some (Int.ofNat (List.getD σ.2.2.1 (Int.toNat 0) (0,0,0)).2.2)))))=true then M.bind (M.bind
 (M.pure (false,[],σ.2.2.2.1,())) fun r=>M.pure (Step.done r)) fun r=>M.pure (Step.done r) else M.req (lenLe (Add.add (List.length σ.2.1)
 (Add.add 0 1))) (M.pure (Step.next (σ.1,σ.2.1++[σ.2.2.1],σ.2.2.2.1,())))))) else M.bind (M.pure (Step.next (σ.2.1,σ.2.2.1,()))) fun r=>
 M.pure (Step.done r)) (x.1,[],x.2.1,())) (Step.go fun (σ:List (List (Nat×Nat×Nat))×List (Nat×List Int)×Unit)=>M.pure (true,σ.1,
 σ.2.1,()))
def S_io_idxf (c_io_l57:Int×(Int×Int)×(Nat×Nat×Nat)×List (Nat×List Int)×Unit→M (Bool×(Int×Int)×(Nat×Nat×Nat)×List (Nat×List Int)×Unit)) (x:List Int×(Int×Int)×(Nat×Nat×Nat)×List (Nat×List Int)×Unit):M (Int×(Int×Int)×(Nat×Nat×Nat)×List (Nat×List Int)×Unit):=
 M.bind (M.loop (fun (σ:List Int×Int×Int×(Int×Int)×(Nat×Nat×Nat)×List (Nat×List Int)×Unit)=>if decide (σ.2.2.1<σ.2.1)=true
 then M.req (0≤σ.2.2.1∧σ.2.2.1<Int.ofNat (List.length σ.1)) (M.bind (c_io_l57 (List.getD σ.1 (Int.toNat σ.2.2.1) 0,σ.2.2.2.1,σ.2.2.2.2.1,
 σ.q5,())) fun y=>if y.1=true then M.bind (M.bind (M.pure (σ.2.2.1,y.2.1,y.2.2.1,y.2.2.2.1,())) fun r=>M.pure (Step.done r)) fun r=>
 M.pure (Step.done r) else M.pure (Step.next (σ.1,σ.2.1,IntKind.wrap .i64 (Add.add σ.2.2.1 1),y.2.1,y.2.2.1,y.2.2.2.1,()))) else M.bind (M.pure
 (Step.next (σ.2.2.2.1,σ.2.2.2.2.1,σ.q5,()))) fun r=>M.pure (Step.done r)) (x.1,Int.ofNat (List.length x.1),0,x.2.1,x.2.2.1,x.2.2.2.1,()))
 (Step.go fun (σ:(Int×Int)×(Nat×Nat×Nat)×List (Nat×List Int)×Unit)=>M.pure (-1,σ.1,σ.2.1,σ.2.2.1,()))
def S_io_l57 (p_files_check:List Int→Prop) (g_files_check:List Int→Int) (x:Int×(Int×Int)×(Nat×Nat×Nat)×List (Nat×List Int)×Unit):M (Bool×(Int×Int)×(Nat×Nat×Nat)×List (Nat×List Int)×Unit):=
 M.req (0≤x.2.1.2∧x.2.1.2<Int.ofNat x.2.2.1.2.2) (M.req (Add.add x.2.2.1.2.1 (Int.toNat x.2.1.2)<List.length (prow x.2.2.2.1 x.2.2.1.1))
 (M.req (0≤IntKind.wrap .i64 (Int.ofNat x.2.2.1.2.2 - 1)∧IntKind.wrap .i64 (Int.ofNat x.2.2.1.2.2 - 1)<Int.ofNat x.2.2.1.2.2) (M.req (Add.add
 x.2.2.1.2.1 (Int.toNat (IntKind.wrap .i64 (Int.ofNat x.2.2.1.2.2 - 1)))<List.length (prow (pset x.2.2.2.1 x.2.2.1.1 (Add.add x.2.2.1.2.1 (Int.toNat
 x.2.1.2)) x.1) x.2.2.1.1)) (M.req ((0:Int)≤0∧0≤IntKind.wrap .i64 (Int.ofNat x.2.2.1.2.2 - 1)∧IntKind.wrap .i64 (Int.ofNat x.2.2.1.2.2 - 1)
 ≤Int.ofNat x.2.2.1.2.2) (M.req (RawOk (Ty.int .u8) (pset x.2.2.2.1 x.2.2.1.1 (Add.add x.2.2.1.2.1 (Int.toNat x.2.1.2)) x.1) (Ty.raws (Ty.int .u8))
 (x.2.2.1.1,Add.add x.2.2.1.2.1 (Int.toNat 0),Int.toNat (IntKind.wrap .i64 (Int.ofNat x.2.2.1.2.2 - 1)) - Int.toNat 0)∧p_files_check (deref
 (Ty.int .u8) (pset x.2.2.2.1 x.2.2.1.1 (Add.add x.2.2.1.2.1 (Int.toNat x.2.1.2)) x.1) (Ty.raws (Ty.int .u8)) (x.2.2.1.1,Add.add x.2.2.1.2.1
 (Int.toNat 0),Int.toNat (IntKind.wrap .i64 (Int.ofNat x.2.2.1.2.2 - 1)) - Int.toNat 0))) (M.pure (decide (List.getD (prow (pset x.2.2.2.1 x.2.2.1.1
 (Add.add x.2.2.1.2.1 (Int.toNat x.2.1.2)) x.1) x.2.2.1.1) (Add.add x.2.2.1.2.1 (Int.toNat (IntKind.wrap .i64 (Int.ofNat x.2.2.1.2.2 - 1)))) 0=
 g_files_check (deref (Ty.int .u8) (pset x.2.2.2.1 x.2.2.1.1 (Add.add x.2.2.1.2.1 (Int.toNat x.2.1.2)) x.1) (Ty.raws (Ty.int .u8)) (x.2.2.1.1,Add.add
 x.2.2.1.2.1 (Int.toNat 0),Int.toNat (IntKind.wrap .i64 (Int.ofNat x.2.2.1.2.2 - 1)) - Int.toNat 0))),x.2.1,x.2.2.1,pset x.2.2.2.1 x.2.2.1.1
 (Add.add x.2.2.1.2.1 (Int.toNat x.2.1.2)) x.1,())))))))
def S_io_look (p_files_check:List Int→Prop) (g_files_check:List Int→Int) (p_files_block_column:List (List Int)×Int×Int→Prop) (g_files_block_column:List (List Int)×Int×Int→List Int) (c_io_cf:List Int×(Int×Int)×(Nat×Nat×Nat)×List (Nat×List Int)×Unit→M (Bool×(Int×Int)×(Nat×Nat×Nat)×List (Nat×List Int)×Unit)) (c_files_printable:Unit→M (List Int)) (x:List (Nat×Nat×Nat)×List (Nat×List Int)×Unit):M (Int×(Int×Int)×List (Nat×List Int)×Unit):=
 M.bind (M.loop (fun (σ:List (Nat×Nat×Nat)×List (Nat×Nat×Nat)×Int×Int×(Int×Int)×List Int×List Int×List (Nat×List Int)×
 Unit)=>if decide (σ.2.2.2.1<σ.2.2.1)=true then M.bind (M.req (0≤σ.2.2.2.1∧σ.2.2.2.1<Int.ofNat (List.length σ.2.1)) (M.req (0≤
 IntKind.wrap .i64 (Int.ofNat (List.getD σ.2.1 (Int.toNat σ.2.2.2.1) (0,0,0)).2.2 - 1)∧IntKind.wrap .i64 (Int.ofNat (List.getD σ.2.1 (Int.toNat
 σ.2.2.2.1) (0,0,0)).2.2 - 1)<Int.ofNat (List.getD σ.2.1 (Int.toNat σ.2.2.2.1) (0,0,0)).2.2) (M.req (Add.add (List.getD σ.2.1 (Int.toNat
 σ.2.2.2.1) (0,0,0)).2.1 (Int.toNat (IntKind.wrap .i64 (Int.ofNat (List.getD σ.2.1 (Int.toNat σ.2.2.2.1) (0,0,0)).2.2 - 1)))<List.length (prow
 σ.q7 (List.getD σ.2.1 (Int.toNat σ.2.2.2.1) (0,0,0)).1)) (M.req ((0:Int)≤0∧0≤IntKind.wrap .i64 (Int.ofNat (List.getD σ.2.1 (Int.toNat
 σ.2.2.2.1) (0,0,0)).2.2 - 1)∧IntKind.wrap .i64 (Int.ofNat (List.getD σ.2.1 (Int.toNat σ.2.2.2.1) (0,0,0)).2.2 - 1)≤Int.ofNat (List.getD σ.2.1
 (Int.toNat σ.2.2.2.1) (0,0,0)).2.2) (M.req (RawOk (Ty.int .u8) σ.q7 (Ty.raws (Ty.int .u8)) ((List.getD σ.2.1 (Int.toNat σ.2.2.2.1) (0,0,0)).1,
 Add.add (List.getD σ.2.1 (Int.toNat σ.2.2.2.1) (0,0,0)).2.1 (Int.toNat 0),Int.toNat (IntKind.wrap .i64 (Int.ofNat (List.getD σ.2.1 (Int.toNat
 σ.2.2.2.1) (0,0,0)).2.2 - 1)) - Int.toNat 0)∧p_files_check (deref (Ty.int .u8) σ.q7 (Ty.raws (Ty.int .u8)) ((List.getD σ.2.1 (Int.toNat
 σ.2.2.2.1) (0,0,0)).1,Add.add (List.getD σ.2.1 (Int.toNat σ.2.2.2.1) (0,0,0)).2.1 (Int.toNat 0),Int.toNat (IntKind.wrap .i64 (Int.ofNat
 (List.getD σ.2.1 (Int.toNat σ.2.2.2.1) (0,0,0)).2.2 - 1)) - Int.toNat 0))) (if decide (List.getD (prow σ.q7 (List.getD σ.2.1 (Int.toNat σ.2.2.2.1)
 (0,0,0)).1) (Add.add (List.getD σ.2.1 (Int.toNat σ.2.2.2.1) (0,0,0)).2.1 (Int.toNat (IntKind.wrap .i64 (Int.ofNat (List.getD σ.2.1 (Int.toNat
 σ.2.2.2.1) (0,0,0)).2.2 - 1)))) 0≠g_files_check (deref (Ty.int .u8) σ.q7 (Ty.raws (Ty.int .u8)) ((List.getD σ.2.1 (Int.toNat σ.2.2.2.1) (0,0,
 0)).1,Add.add (List.getD σ.2.1 (Int.toNat σ.2.2.2.1) (0,0,0)).2.1 (Int.toNat 0),Int.toNat (IntKind.wrap .i64 (Int.ofNat (List.getD σ.2.1
 (Int.toNat σ.2.2.2.1) (0,0,0)).2.2 - 1)) - Int.toNat 0)))=true then M.req (lenLe (Add.add (List.length σ.q5) (Add.add 0 1))) (M.pure (Step.next
 (σ.1,σ.2.1,σ.2.2.1,σ.2.2.2.1,σ.2.2.2.2.1,σ.q5++[σ.2.2.2.1],σ.q6,σ.q7,()))) else M.pure (Step.next (σ.1,σ.2.1,σ.2.2.1,σ.2.2.2.1,
 σ.2.2.2.2.1,σ.q5,σ.q6,σ.q7,())))))))) (Step.go fun (σ:List (Nat×Nat×Nat)×List (Nat×Nat×Nat)×Int×Int×(Int×Int)×List Int×
 List Int×List (Nat×List Int)×Unit)=>M.pure (Step.next (σ.1,σ.2.1,σ.2.2.1,IntKind.wrap .i64 (Add.add σ.2.2.2.1 1),σ.2.2.2.2.1,σ.q5,σ.q6,
 σ.q7,()))) else M.bind (M.pure (Step.next (σ.1,σ.2.2.2.2.1,σ.q5,σ.q6,σ.q7,()))) fun r=>M.pure (Step.done r)) (x.1,x.1,Int.ofNat
 (List.length x.1),0,(0,0),[],[],x.2.1,())) (Step.go fun (σ:List (Nat×Nat×Nat)×(Int×Int)×List Int×List Int×List (Nat×List
 Int)×Unit)=>M.bind (M.req ((0:Int)≤0∧0<Int.ofNat (List.length σ.1)) (M.loop (fun (σ:List (Nat×Nat×Nat)×Int×Int×(Int×Int)×
 List Int×List Int×List (Nat×List Int)×Unit)=>if decide (σ.2.2.1<σ.2.1)=true then M.bind (M.req (0≤IntKind.wrap .i64 (Int.ofNat
 (List.length σ.1) - 1)∧IntKind.wrap .i64 (Int.ofNat (List.length σ.1) - 1)<Int.ofNat (List.length σ.1)) (M.req (0≤σ.2.2.1∧σ.2.2.1<Int.ofNat
 (List.getD σ.1 (Int.toNat (IntKind.wrap .i64 (Int.ofNat (List.length σ.1) - 1))) (0,0,0)).2.2) (M.req (Add.add (List.getD σ.1 (Int.toNat
 (IntKind.wrap .i64 (Int.ofNat (List.length σ.1) - 1))) (0,0,0)).2.1 (Int.toNat σ.2.2.1)<List.length (prow σ.q6 (List.getD σ.1 (Int.toNat
 (IntKind.wrap .i64 (Int.ofNat (List.length σ.1) - 1))) (0,0,0)).1)) (M.req (RawOk (Ty.int .u8) σ.q6 (Ty.prod (Ty.slice (Ty.raws (Ty.int .u8)))
 (Ty.prod (Ty.int .i64) (Ty.int .i64))) (σ.1,σ.2.2.1,1)∧p_files_block_column (deref (Ty.int .u8) σ.q6 (Ty.prod (Ty.slice (Ty.raws (Ty.int .u8)))
 (Ty.prod (Ty.int .i64) (Ty.int .i64))) (σ.1,σ.2.2.1,1))) (M.req (p_files_check (g_files_block_column (deref (Ty.int .u8) σ.q6 (Ty.prod (Ty.slice
 (Ty.raws (Ty.int .u8))) (Ty.prod (Ty.int .i64) (Ty.int .i64))) (σ.1,σ.2.2.1,1)))) (if decide (List.getD (prow σ.q6 (List.getD σ.1 (Int.toNat
 (IntKind.wrap .i64 (Int.ofNat (List.length σ.1) - 1))) (0,0,0)).1) (Add.add (List.getD σ.1 (Int.toNat (IntKind.wrap .i64 (Int.ofNat (List.length
 σ.1) - 1))) (0,0,0)).2.1 (Int.toNat σ.2.2.1)) 0≠g_files_check (g_files_block_column (deref (Ty.int .u8) σ.q6 (Ty.prod (Ty.slice (Ty.raws (Ty.int
 .u8))) (Ty.prod (Ty.int .i64) (Ty.int .i64))) (σ.1,σ.2.2.1,1))))=true then M.req (lenLe (Add.add (List.length σ.q5) (Add.add 0 1))) (M.pure
 (Step.next (σ.1,σ.2.1,σ.2.2.1,σ.2.2.2.1,σ.2.2.2.2.1,σ.q5++[σ.2.2.1],σ.q6,()))) else M.pure (Step.next (σ.1,σ.2.1,σ.2.2.1,σ.2.2.2.1,
 σ.2.2.2.2.1,σ.q5,σ.q6,())))))))) (Step.go fun (σ:List (Nat×Nat×Nat)×Int×Int×(Int×Int)×List Int×List Int×List (Nat×List Int)
 ×Unit)=>M.pure (Step.next (σ.1,σ.2.1,IntKind.wrap .i64 (Add.add σ.2.2.1 1),σ.2.2.2.1,σ.2.2.2.2.1,σ.q5,σ.q6,()))) else M.bind (M.pure
 (Step.next (σ.1,σ.2.2.2.1,σ.2.2.2.2.1,σ.q5,σ.q6,()))) fun r=>M.pure (Step.done r)) (σ.1,Int.ofNat (List.getD σ.1 (Int.toNat 0) (0,0,
 0)).2.2,0,σ.2.1,σ.2.2.1,σ.2.2.2.1,σ.2.2.2.2.1,()))) (Step.go fun (σ:List (Nat×Nat×Nat)×(Int×Int)×List Int×List Int×List (Nat×
 List Int)×Unit)=>if decide (IntKind.wrap .i64 (Add.add (Int.ofNat (List.length σ.2.2.1)) (Int.ofNat (List.length σ.2.2.2.1)))=0)=true then
 M.pure (0,(0,0),σ.2.2.2.2.1,()) else if (decide (Int.ofNat (List.length σ.2.2.1)≠1)||decide (Int.ofNat (List.length σ.2.2.2.1)≠1))=true
 then M.pure (2,(0,0),σ.2.2.2.2.1,()) else M.req ((0:Int)≤0∧0<Int.ofNat (List.length σ.2.2.1)) (M.req ((0:Int)≤0∧0<Int.ofNat
 (List.length σ.2.2.2.1)) (M.req (0≤List.getD σ.2.2.1 (Int.toNat 0) 0∧List.getD σ.2.2.1 (Int.toNat 0) 0<Int.ofNat (List.length σ.1)) (M.req (0≤
 List.getD σ.2.2.2.1 (Int.toNat 0) 0∧List.getD σ.2.2.2.1 (Int.toNat 0) 0<Int.ofNat (List.getD σ.1 (Int.toNat (List.getD σ.2.2.1 (Int.toNat 0) 0))
 (0,0,0)).2.2) (M.req (Add.add (List.getD σ.1 (Int.toNat (List.getD σ.2.2.1 (Int.toNat 0) 0)) (0,0,0)).2.1 (Int.toNat (List.getD σ.2.2.2.1
 (Int.toNat 0) 0))<List.length (prow σ.2.2.2.2.1 (List.getD σ.1 (Int.toNat (List.getD σ.2.2.1 (Int.toNat 0) 0)) (0,0,0)).1)) (M.req
 (c_files_printable ()).safe (M.bind (c_io_cf (M.val (c_files_printable ()) [],(List.getD σ.2.2.1 (Int.toNat 0) 0,List.getD σ.2.2.2.1 (Int.toNat 0)
 0),List.getD σ.1 (Int.toNat (List.getD σ.2.2.1 (Int.toNat 0) 0)) (0,0,0),σ.2.2.2.2.1,())) fun y=>M.req ((!!y.1)=true→(!!y.1)=true∧True
 ∧True) (M.req ((!!y.1)=true→((!!y.1)=true∧True)∧True∧True) (M.req ((!!y.1)=true→((!!y.1)=true∧(!!y.1)=true)∧(0≤
 IntKind.wrap .i64 (Int.ofNat (List.length σ.1) - 1)∧IntKind.wrap .i64 (Int.ofNat (List.length σ.1) - 1)<Int.ofNat (List.length σ.1))∧True)
 (M.req ((!!y.1)=true→(!!y.1)=true∧True∧True) (M.req ((!!y.1)=true→(!!y.1)=true∧True∧True) (M.req ((!!y.1)=true→((!!y.1)=
 true∧(!!y.1)=true)∧(0≤y.2.1.2∧y.2.1.2<Int.ofNat (List.getD σ.1 (Int.toNat (IntKind.wrap .i64 (Int.ofNat (List.length σ.1) - 1))) (0,0,
 0)).2.2)∧True) (M.req ((!!y.1)=true→(!!y.1)=true∧Add.add (List.getD σ.1 (Int.toNat (IntKind.wrap .i64 (Int.ofNat (List.length σ.1) - 1)))
 (0,0,0)).2.1 (Int.toNat y.2.1.2)<List.length (prow y.2.2.2.1 (List.getD σ.1 (Int.toNat (IntKind.wrap .i64 (Int.ofNat (List.length σ.1) - 1))) (0,
 0,0)).1)∧True) (M.req ((!!y.1)=true→(!!y.1)=true∧True∧True) (M.req ((!!y.1)=true→((!!y.1)=true∧(!!y.1)=true∧True)∧(RawOk
 (Ty.int .u8) y.2.2.2.1 (Ty.prod (Ty.slice (Ty.raws (Ty.int .u8))) (Ty.prod (Ty.int .i64) (Ty.int .i64))) (σ.1,y.2.1.2,1)∧p_files_block_column
 (deref (Ty.int .u8) y.2.2.2.1 (Ty.prod (Ty.slice (Ty.raws (Ty.int .u8))) (Ty.prod (Ty.int .i64) (Ty.int .i64))) (σ.1,y.2.1.2,1)))∧True) (M.req
 ((!!y.1)=true→((!!y.1)=true∧True)∧p_files_check (g_files_block_column (deref (Ty.int .u8) y.2.2.2.1 (Ty.prod (Ty.slice (Ty.raws (Ty.int
 .u8))) (Ty.prod (Ty.int .i64) (Ty.int .i64))) (σ.1,y.2.1.2,1)))∧True) (M.req ((!!y.1)=true→((!!y.1)=true∧(!!y.1)=true)∧True∧True)
 (M.req (True∧((!y.1)=false→(!!y.1)=true)) (if (!y.1||decide (List.getD (prow y.2.2.2.1 (List.getD σ.1 (Int.toNat (IntKind.wrap .i64
 (Int.ofNat (List.length σ.1) - 1))) (0,0,0)).1) (Add.add (List.getD σ.1 (Int.toNat (IntKind.wrap .i64 (Int.ofNat (List.length σ.1) - 1))) (0,0,
 0)).2.1 (Int.toNat y.2.1.2)) 0≠g_files_check (g_files_block_column (deref (Ty.int .u8) y.2.2.2.1 (Ty.prod (Ty.slice (Ty.raws (Ty.int .u8)))
 (Ty.prod (Ty.int .i64) (Ty.int .i64))) (σ.1,y.2.1.2,1)))))=true then M.req (0≤y.2.1.2∧y.2.1.2<Int.ofNat y.2.2.1.2.2) (M.req (Add.add
 y.2.2.1.2.1 (Int.toNat y.2.1.2)<List.length (prow y.2.2.2.1 y.2.2.1.1)) (M.pure (2,(0,0),pset y.2.2.2.1 y.2.2.1.1 (Add.add y.2.2.1.2.1
 (Int.toNat y.2.1.2)) (List.getD (prow σ.2.2.2.2.1 (List.getD σ.1 (Int.toNat (List.getD σ.2.2.1 (Int.toNat 0) 0)) (0,0,0)).1) (Add.add (List.getD
 σ.1 (Int.toNat (List.getD σ.2.2.1 (Int.toNat 0) 0)) (0,0,0)).2.1 (Int.toNat (List.getD σ.2.2.2.1 (Int.toNat 0) 0))) 0),()))) else M.pure (1,
 y.2.1,y.2.2.2.1,())))))))))))))))))))))
def S_io_wbyte (c_fccheck:List Int×Unit→M (List Int×Unit)) (x:Int×List Int×Unit):M (List Int×Unit):=
 M.bind (c_fccheck (x.2.1,())) fun y=>M.req True (M.req (lenLe (Add.add (List.length y.1) (Add.add 0 1))) (M.req True (M.pure (y.1++[x.1],()))))
def S_io_write (c_fccheck:List Int×Unit→M (List Int×Unit)) (x:List Int×List Int×Unit):M (Int×List Int×Unit):=
 M.bind (c_fccheck (x.2.1,())) fun y=>M.req True (M.req (lenLe (Add.add (List.length y.1) (List.length x.1))) (M.req True (M.pure (Int.ofNat
 (List.length x.1),y.1++x.1,()))))
def S_io_wstr (c_fccheck:List Int×Unit→M (List Int×Unit)) (x:List UInt8×List Int×Unit):M (Int×List Int×Unit):=
 M.bind (c_fccheck (x.2.1,())) fun y=>M.req True (M.req (lenLe (Add.add (List.length y.1) (List.length (numsOf x.1)))) (M.req True (M.pure
 (Int.ofNat (List.length x.1),y.1++numsOf x.1,()))))
end Go.Fer
namespace Go.Fer
open M (Step)
set_option linter.unusedVariables false
set_option linter.unusedSimpArgs false
attribute [simp] or_gdo or_gdo2 and_gdo M.bind_det M.bind_req M.bind_ite M.val_det M.val_pure M.safe_det M.gdo_det M.gdo_pure M.go_next M.go_done add_def add_defN append_def Step.mapN
def okB (b:UInt8):Bool:=decide (32≤b.toNat)&&decide (b.toNat≤126)
def valB (b:UInt8):Int:=(b.toNat:Int) - 32
def sumB (l:List UInt8):Int:=l.foldl (fun n b=>n+valB b) 0
def wrB (n:Int):UInt8:=UInt8.ofNat (n+32).toNat
theorem okB_iff {b:UInt8}:okB b=true↔0≤valB b∧valB b≤94:=by
 unfold okB valB
 simp
 omega
theorem wrap8 {n:Int} (h:0≤n) (h2:n≤255):IntKind.wrap .u8 n=n:=by
 show (if (false&&decide (n % 2 ^ 8≥(2 ^ (8 - 1):Int)))=true then n % 2 ^ 8 - 2 ^ 8 else n % 2 ^ 8)=n
 simp only [Bool.false_and,Bool.false_eq_true,if_false]
 omega
end Go.Fer
namespace Go.Fer
open M (Step)
set_option linter.unusedVariables false
set_option linter.unusedSimpArgs false
def okI (c:Int):Bool:=decide (32≤c)&&decide (c≤126)
theorem okI_iff {c:Int}:okI c=true↔32≤c∧c≤126:=by simp [okI]
def addI (s c:Int):Int:=Int.tmod (s+c - 32) 95
def sumI (l:List Int):Int:=l.foldl addI 0
def chkI (l:List Int):Int:=sumI l+32
theorem addI_bound {s c:Int} (h:0≤s) (hc:okI c=true):0≤addI s c∧addI s c≤94:=by
 have:=okI_iff.1 hc
 have h1:0≤Int.tmod (s+c - 32) 95:=Int.tmod_nonneg _ (by omega)
 have h2:Int.tmod (s+c - 32) 95<95:=Int.tmod_lt_of_pos _ (by decide)
 exact ⟨h1,Int.le_of_lt_add_one h2⟩
theorem sumI_bound:∀ (l:List Int) (s:Int),0≤s→s≤94→l.all okI=true→0≤l.foldl addI s∧l.foldl addI s≤94
 | [],s,h,h2,_=>⟨h,h2⟩
 | c::l,s,h,h2,ha=>by
  simp only [List.all_cons,Bool.and_eq_true] at ha
  obtain ⟨k1,k2⟩:=addI_bound h ha.1
  exact sumI_bound l _ k1 k2 ha.2
theorem chkI_ok {l:List Int} (h:l.all okI=true):okI (chkI l)=true:=by
 obtain ⟨h1,h2⟩:=sumI_bound l 0 (Int.le_refl _) (by decide) h
 refine okI_iff.2 ?_
 unfold chkI sumI
 omega
abbrev fcWrittenP:FC:=⟨.int .i64,.int .u8,fun x=>0≤x∧x≤94,fun x=>x+32⟩
theorem sWrittenP (x):M.le (S_files_written x) (fcWrittenP.sh x):=M.le_det fun h=>by
 change Int at x
 obtain ⟨h1,h2⟩:0≤x∧x≤94:=h
 unfold S_files_written
 rw [add_def,wrap64 (n:=x+32) (by omega) (by omega),wrap8 (by omega) (by omega)]
theorem sChar (x):M.le (S_files_sum_char fcWrittenP.sh x) (fcWrittenP.sh x):=M.le_det fun h=>by
 unfold S_files_sum_char
 rw [show fcWrittenP.sh x=M.pure (x+32) from M.det_true h _,M.bind_pure]
def shAdd (x:Int×Int×Unit):M (Int×Unit):=M.det ((32≤x.1∧x.1≤126)∧0≤x.2.1∧x.2.1≤94) (addI x.2.1 x.1,())
theorem sAdd (x):M.le (S_io_add x) (shAdd x):=M.le_det fun h=>by
 obtain ⟨⟨h1,h2⟩,h3,h4⟩:=h
 unfold S_io_add
 rw [M.req_true trivial,M.req_true (by decide),M.req_true trivial,add_def,wrap64 (n:=x.1) (by omega) (by omega),wrap64 (n:=x.2.1+x.1) (by omega) (by omega),wrap64 (n:=x.2.1+x.1 - 32) (by omega) (by omega)]
 rfl
abbrev fcCheckP:FC:=⟨.slice (.int .u8),.int .u8,fun x=>List.length x<65536∧List.all x okI=true,fun x=>chkI x⟩
theorem sCheckP (x):M.le (S_files_check shAdd fcWrittenP.sh x) (fcCheckP.sh x):=M.le_det fun h=>by
 change List Int at x
 obtain ⟨h1,h2⟩:x.length<65536∧x.all okI=true:=h
 unfold S_files_check
 show _=M.pure (chkI x)
 rw [M.loop_list x (fun i (n:Int)=>(x,(x.length:Int),(i:Int),n,())) (fun c n=>.next (addI n c)) (fun n=>.next (n,())) (fun i n=>0≤n∧n≤94) 0 ?_ ?_ ?_ ?_]
 ·rw [foldS_next,M.bind_pure,M.go_next]
  have hb:=sumI_bound x 0 (Int.le_refl _) (by decide) h2
  rw [show fcWrittenP.sh (x.foldl addI 0,()).1=M.pure (chkI x) from M.det_true hb _,M.bind_pure]
 ·rfl
 ·exact ⟨Int.le_refl _,by decide⟩
 ·intro i hi n hn
  have hw:=wrap64 (n:=(i:Int)+1) (by omega) (by omega)
  have hb:=List.all_eq_true.1 h2 _ (List.getElem_mem hi)
  refine ⟨?_,fun n' hn'=>?_⟩
  ·simp only [ofNat_def,lt_len hi,if_true,getD_nat hi,in_len hi,M.req_True,add_def,hw]
   rw [show shAdd (x[i],n,())=M.pure (addI n x[i],()) from M.det_true ⟨okI_iff.1 hb,hn⟩ _,M.bind_pure]
   rfl
  ·simp only [Step.next.injEq] at hn'
   subst hn'
   exact addI_bound hn.1 hb
 ·intro n hn
  simp
def colI (l:List (List Int)) (at':Int):List Int:=l.map fun r=>r.getD at'.toNat 0
def preCol (l:List (List Int)) (at' w:Int):Prop:=l.length<65536∧(0≤w∧w≤(l.length:Int))∧0≤at'∧∀ r∈l,at'<(r.length:Int)
abbrev tRowsB:Ty:=.slice (.slice (.int .u8))
abbrev fcColumn:FC:=⟨.prod tRowsB (.prod (.int .i64) (.int .i64)),.slice (.int .u8),fun x=>preCol x.1 x.2.1 x.2.2,fun x=>colI (List.take (List.length x.1 - x.2.2.toNat) x.1) x.2.1⟩
theorem sColumn (x):M.le (S_files_block_column x) (fcColumn.sh x):=M.le_det fun h=>by
 change List (List Int)×Int×Int at x
 obtain ⟨l,c,w⟩:=x
 obtain ⟨h1,⟨h2,h3⟩,h4,h5⟩:preCol l c w:=h
 unfold S_files_block_column
 dsimp only
 have hw:=wrap64 (n:=(l.length:Int) - w) (by omega) (by omega)
 simp only [ofNat_def,hw]
 show _=M.pure (colI (l.take (l.length - w.toNat)) c)
 have e:((l.length:Int) - w).toNat=l.length - w.toNat:=by omega
 rw [M.req_true ⟨Int.le_refl _,by omega,by omega⟩,e]
 generalize hk:l.take (l.length - w.toNat)=k
 have hkl:k.length<65536:=by rw [←hk];simp;omega
 have hkr:∀ r∈k,c<(r.length:Int):=fun r hr=>h5 r (by rw [←hk] at hr;exact List.mem_of_mem_take hr)
 rw [M.loop_list k (fun i (o:List Int)=>(c,k,(k.length:Int),(i:Int),o,())) (fun r o=>.next (o++[r.getD c.toNat 0])) (fun o=>.next (o,())) (fun i o=>o.length=i) [] ?_ ?_ ?_ ?_]
 ·rw [foldS_next,M.bind_pure,M.go_next]
  congr 1
  show (k.foldl (fun o r=>o++[r.getD c.toNat 0]) [])=colI k c
  rw [foldl_map_app]
  rfl
 ·rfl
 ·rfl
 ·intro i hi o ho
  have hw2:=wrap64 (n:=(i:Int)+1) (by omega) (by omega)
  have hr:=hkr _ (List.getElem_mem hi)
  refine ⟨?_,fun o' ho'=>?_⟩
  ·simp only [ofNat_def,lt_len hi,if_true,getD_nat hi,in_len hi,M.req_True,add_def,add_defN,hw2]
   rw [M.req_true ⟨h4,hr⟩,M.req_true (by unfold lenLe;omega)]
   rfl
  ·simp only [Step.next.injEq] at ho'
   subst ho'
   simp [ho]
 ·intro o ho
  simp
end Go.Fer
namespace Go.Fer
open M (Step)
set_option linter.unusedVariables false
set_option linter.unusedSimpArgs false
def lettersI:List Int:=(List.range 95).map fun i:Nat=>(i:Int)+32
abbrev fcPrintable:FC:=⟨.unit,.slice (.int .u8),fun _=>True,fun _=>lettersI⟩
theorem sPrintable (x):M.le (S_files_printable x) (fcPrintable.sh x):=M.le_det fun _=>by
 unfold S_files_printable
 show _=M.pure lettersI
 rw [M.loop_list (List.range 95) (fun i (o:List Int)=>((i:Int)+32,o,())) (fun (i:Nat) o=>.next (o++[(i:Int)+32])) (fun o=>.next (o,())) (fun i o=>o.length=i) [] ?_ ?_ ?_ ?_]
 ·rw [foldS_next,M.bind_pure,M.go_next]
  congr 1
 ·rfl
 ·rfl
 ·intro i hi o ho
  have hi':i<95:=by simpa using hi
  have hd:decide ((i:Int)+32≤126)=true:=decide_eq_true (by omega)
  have e:(List.range 95)[i]'hi=i:=List.getElem_range ..
  refine ⟨?_,fun o' ho'=>?_⟩
  ·simp only [hd,if_true,add_def,add_defN]
   rw [M.req_true (by unfold lenLe;omega),wrap8 (by omega) (by omega),e]
   show _=M.pure (Step.next (((i+1:Nat):Int)+32,o++[(i:Int)+32],()))
   rw [show (((i+1:Nat):Int)+32)=(i:Int)+32+1 by omega]
  ·simp only [Step.next.injEq] at ho'
   subst ho'
   simp [ho]
 ·intro o ho
  have:(List.range 95).length=95:=by simp
  rw [this]
  simp
def shCopyC (x:List Int×Unit):M (List Int×Unit):=M.pure x
def shWByte (x:Int×List Int×Unit):M (List Int×Unit):=M.det (lenLe (x.2.1.length+1)) (x.2.1++[x.1],())
def shWrite (x:List Int×List Int×Unit):M (Int×List Int×Unit):=M.det (lenLe (x.2.1.length+x.1.length)) ((x.1.length:Int),x.2.1++x.1,())
def shWStr (x:List UInt8×List Int×Unit):M (Int×List Int×Unit):=M.det (lenLe (x.2.1.length+x.1.length)) ((x.1.length:Int),x.2.1++numsOf x.1,())
def shBStr (x:List Int×Unit):M (List UInt8×Unit):=M.pure (bytesOf x.1,())
theorem numsOf_len (s:List UInt8):(numsOf s).length=s.length:=by simp [numsOf]
theorem sWByte (x):M.le (S_io_wbyte shCopyC x) (shWByte x):=M.le_det fun h=>by
 unfold S_io_wbyte shCopyC
 rw [M.bind_pure]
 simp only [add_defN]
 rw [M.req_true trivial,M.req_true h,M.req_true trivial]
theorem sWrite (x):M.le (S_io_write shCopyC x) (shWrite x):=M.le_det fun h=>by
 unfold S_io_write shCopyC
 rw [M.bind_pure]
 simp only [add_defN]
 rw [M.req_true trivial,M.req_true h,M.req_true trivial]
 rfl
theorem sWStr (x):M.le (S_io_wstr shCopyC x) (shWStr x):=M.le_det fun h=>by
 unfold S_io_wstr shCopyC
 rw [M.bind_pure]
 simp only [add_defN,numsOf_len]
 rw [M.req_true trivial,M.req_true h,M.req_true trivial]
 rfl
theorem sBStr (x):M.le (S_io_bstr x) (shBStr x):=by
 unfold S_io_bstr shBStr
 rw [M.req_true trivial,M.req_true trivial,M.req_true trivial,M.req_true rfl]
 exact M.le_refl _
def linesI (l:List (List Int)):List Int:=l.flatMap fun r=>r++[10]
theorem foldl_append_flatN {α β:Type} (f:α→List β):∀ (l:List α) (b:List β),l.foldl (fun b x=>b++f x) b=b++l.flatMap f
 | [],b=>by simp
 | x::l,b=>by simp only [List.foldl_cons,List.flatMap_cons];rw [foldl_append_flatN f l];simp
theorem linesI_len:∀ (l:List (List Int)),(∀ r∈l,r.length<65535)→(linesI l).length≤l.length*65535
 | [],_=>Nat.zero_le _
 | r::l,h=>by
  have:=linesI_len l fun r hr=>h r (by simp [hr])
  have:=h r (by simp)
  unfold linesI at *
  simp only [List.flatMap_cons,List.length_append,List.length_cons,List.length_nil]
  omega
def textI (l:List (List Int)):List Int:=linesI l++[10]
abbrev fcText:FC:=⟨tRowsB,.str,fun x=>List.length x<65536∧∀ r∈(x:List (List Int)),r.length<65535,fun x=>bytesOf (textI x)⟩
theorem sText (x):M.le (S_files_block_text shBStr shWrite shWByte x) (fcText.sh x):=M.le_det fun h=>by
 change List (List Int) at x
 obtain ⟨h1,h2⟩:x.length<65536∧∀ r∈x,r.length<65535:=h
 unfold S_files_block_text
 show _=M.pure (bytesOf (textI x))
 rw [M.bind_pure,M.go_next]
 dsimp only
 rw [M.loop_list x (fun i (o:List Int)=>(x,(x.length:Int),(i:Int),o,())) (fun r o=>.next (o++(r++[10]))) (fun o=>.next (o,())) (fun i o=>o.length≤i*65535) [] ?_ ?_ ?_ ?_]
 ·rw [foldS_next,M.bind_pure,M.go_next]
  have e:x.foldl (fun o r=>o++(r++[10])) []=linesI x:=by rw [foldl_append_flatN];rfl
  rw [e]
  dsimp only
  have hlen:(linesI x).length≤x.length*65535:=linesI_len x h2
  rw [show shWByte (10,linesI x,())=M.pure (linesI x++[10],()) from M.det_true (by unfold lenLe;show (linesI x).length+1≤_;omega) _,M.bind_pure]
  dsimp only
  rw [show shBStr (linesI x++[10],())=M.pure (bytesOf (linesI x++[10]),()) from rfl,M.bind_pure]
  rfl
 ·rfl
 ·exact Nat.zero_le _
 ·intro i hi o ho
  have hw:=wrap64 (n:=(i:Int)+1) (by omega) (by omega)
  have hr:=h2 _ (List.getElem_mem hi)
  refine ⟨?_,fun o' ho'=>?_⟩
  ·simp only [ofNat_def,lt_len hi,if_true,getD_nat hi,in_len hi,M.req_True,add_def,hw]
   rw [show shWrite (x[i],o,())=M.pure ((x[i].length:Int),o++x[i],()) from M.det_true (by unfold lenLe;show o.length+x[i].length≤_;omega) _,M.bind_pure]
   dsimp only
   rw [show shWByte (10,o++x[i],())=M.pure (o++x[i]++[10],()) from M.det_true (by unfold lenLe;show (o++x[i]).length+1≤_;simp;omega) _,M.bind_pure]
   dsimp only
   rw [List.append_assoc]
   rfl
  ·simp only [Step.next.injEq] at ho'
   subst ho'
   simp only [List.length_append,List.length_singleton]
   omega
 ·intro o ho
  simp
end Go.Fer
namespace Go.Fer
open M (Step)
set_option linter.unusedVariables false
set_option linter.unusedSimpArgs false
def longI (r:List Int):Int:=min (r.getD 0 0 - 32) ((r.length:Int) - 2)
def lineI (r:List Int):List UInt8:=bytesOf ((r.take (1+longI r).toNat).drop 1)
def rowOk (r:List Int):Prop:=2≤r.length∧r.length<65535∧r.all okI=true
abbrev fcTexts:FC:=⟨tRowsB,.slice .str,fun x=>(1≤List.length x∧List.length x<65536)∧∀ r∈(x:List (List Int)),rowOk r,fun x=>(List.take (List.length x - 1) x).map lineI⟩
theorem rowOk_get {r:List Int} (h:rowOk r) {i:Nat} (hi:i<r.length):32≤r.getD i 0∧r.getD i 0≤126:=by
 have:=okI_iff.1 (List.all_eq_true.1 h.2.2 _ (List.getElem_mem hi))
 rw [List.getD_eq_getElem?_getD,List.getElem?_eq_getElem hi]
 exact this
theorem sTextsP (x):M.le (S_files_block_texts x) (fcTexts.sh x):=M.le_det fun h=>by
 change List (List Int) at x
 obtain ⟨⟨h1,h2⟩,h3⟩:(1≤x.length∧x.length<65536)∧∀ r∈x,rowOk r:=h
 unfold S_files_block_texts
 show _=M.pure ((x.take (x.length - 1)).map lineI)
 have hw:=wrap64 (n:=(x.length:Int) - 1) (by omega) (by omega)
 simp only [ofNat_def,hw]
 have e:((x.length:Int) - 1).toNat=x.length - 1:=by omega
 rw [M.req_true ⟨Int.le_refl _,by omega,by omega⟩,e]
 generalize hk:x.take (x.length - 1)=k
 have hkl:k.length<65536:=by rw [←hk];simp;omega
 have hkr:∀ r∈k,rowOk r:=fun r hr=>h3 r (by rw [←hk] at hr;exact List.mem_of_mem_take hr)
 rw [M.loop_list k (fun i (o:List Str)=>(k,(k.length:Int),(i:Int),o,())) (fun r o=>.next (o++[lineI r])) (fun o=>.next (o,())) (fun i o=>o.length=i) [] ?_ ?_ ?_ ?_]
 ·rw [foldS_next,M.bind_pure,M.go_next]
  congr 1
  show (k.foldl (fun o r=>o++[lineI r]) [])=k.map lineI
  rw [foldl_map_app]
  rfl
 ·rfl
 ·rfl
 ·intro i hi o ho
  have hw2:=wrap64 (n:=(i:Int)+1) (by omega) (by omega)
  have hr:=hkr _ (List.getElem_mem hi)
  obtain ⟨g1,g2⟩:=rowOk_get hr (i:=0) (by have:=hr.1;omega)
  obtain ⟨r1,r2,_⟩:=hr
  have w1:=wrap64 (n:=(k[i].length:Int) - 2) (by omega) (by omega)
  have w2:IntKind.wrap .u8 (k[i].getD 0 0 - 32)=k[i].getD 0 0 - 32:=wrap8 (by omega) (by omega)
  have w3:=wrap64 (n:=k[i].getD 0 0 - 32) (by omega) (by omega)
  have hm:(if (k[i].length:Int) - 2<k[i].getD 0 0 - 32 then (k[i].length:Int) - 2 else k[i].getD 0 0 - 32)=longI k[i]:=by
   unfold longI
   split<;>omega
  have hl0:0≤longI k[i]∧longI k[i]≤(k[i].length:Int) - 2:=by unfold longI;omega
  have w4:=wrap64 (n:=1+longI k[i]) (by omega) (by omega)
  have z:(0:Int).toNat=0:=rfl
  have z1:(1:Int).toNat=1:=rfl
  refine ⟨?_,fun o' ho'=>?_⟩
  ·simp only [ofNat_def,lt_len hi,if_true,getD_nat hi,in_len hi,M.req_True,add_def,add_defN,hw2,z,z1,w1,w2,w3,hm,w4]
   rw [M.req_true ⟨Int.le_refl _,by omega⟩,M.req_true ⟨by decide,by omega,by omega⟩,M.req_true (by unfold lenLe;omega)]
   rfl
  ·simp only [Step.next.injEq] at ho'
   subst ho'
   simp [ho]
 ·intro o ho
  simp
end Go.Fer
namespace Go.Fer
open M (Step)
set_option linter.unusedVariables false
set_option linter.unusedSimpArgs false
def shColumn (x:Int×Int×List (List Int)×Unit):M (List Int×List (List Int)×Unit):=M.det (preCol x.2.2.1 x.1 x.2.1) (colI (x.2.2.1.take (x.2.2.1.length - x.2.1.toNat)) x.1,x.2.2.1,())
theorem sColumnIO (x):M.le (S_io_column x) (shColumn x):=M.le_det fun h=>by
 obtain ⟨c,w,l,u⟩:=x
 obtain ⟨h1,⟨h2,h3⟩,h4,h5⟩:preCol l c w:=h
 unfold S_io_column
 dsimp only
 have hw:=wrap64 (n:=(l.length:Int) - w) (by omega) (by omega)
 simp only [ofNat_def,hw]
 have e:((l.length:Int) - w).toNat=l.length - w.toNat:=by omega
 have hK:l.length - w.toNat≤l.length:=Nat.sub_le _ _
 rw [M.req_true ⟨Int.le_refl _,by omega,by omega⟩,e]
 generalize l.length - w.toNat=K at hK
 have hkl:(l.take K).length=K:=by simp;omega
 have z:(0:Int).toNat=0:=rfl
 rw [z,Nat.sub_zero]
 rw [M.loop_list (l.take K) (fun i (o:List Int)=>(c,(0,K),(K:Int),(i:Int),o,l,())) (fun r o=>.next (o++[r.getD c.toNat 0])) (fun o=>.next (o,l,())) (fun i o=>o.length=i) [] ?_ ?_ ?_ ?_]
 ·rw [foldS_next,M.bind_pure,M.go_next]
  dsimp only
  have e3:(l.take K).foldl (fun o r=>o++[r.getD c.toNat 0]) []=colI (l.take K) c:=by rw [foldl_map_app];rfl
  rw [e3]
 ·rfl
 ·rfl
 ·intro i hi o ho
  have hi2:i<K:=by omega
  have hi3:i<l.length:=by omega
  have hw2:=wrap64 (n:=(i:Int)+1) (by omega) (by omega)
  have hg:l.getD i []=(l.take K)[i]'hi:=by rw [List.getD_eq_getElem?_getD,List.getElem?_eq_getElem hi3];simp
  have hr:=h5 _ (List.getElem_mem hi3)
  have hr:c<(((l.take K)[i]'hi).length:Int):=by simpa using hr
  refine ⟨?_,fun o' ho'=>?_⟩
  ·have hd:decide ((i:Int)<(K:Int))=true:=decide_eq_true (by omega)
   have hz:((i:Int)).toNat=i:=rfl
   simp only [hd,if_true,add_def,add_defN,hw2,hz,Nat.zero_add,Nat.sub_zero,hg]
   rw [M.req_true ⟨by omega,by omega⟩,M.req_true ⟨h4,hr⟩,M.req_true (by unfold lenLe;omega)]
   rfl
  ·simp only [Step.next.injEq] at ho'
   subst ho'
   simp [ho]
 ·intro o ho
  rw [hkl]
  simp
def wideS (x:List (List UInt8)):Nat:=x.foldl (fun w t=>max w t.length) 0
def padI (w:Nat) (t:List UInt8):List Int:=((t.length:Int)+32)::numsOf (t++List.replicate (w - t.length) 32)
def rowI (w:Nat) (t:List UInt8):List Int:=padI w t++[chkI (padI w t)]
def sumsI (rows:List (List Int)) (n:Nat):List Int:=(List.range n).map fun c:Nat=>chkI (colI rows (c:Int))
def blockI (x:List (List UInt8)):List (List Int):=x.map (rowI (wideS x))++[sumsI (x.map (rowI (wideS x))) (wideS x+2)]
def textOk (t:List UInt8):Prop:=t.length≤60∧t.all okB=true
theorem wideS_le:∀ (x:List (List UInt8)) (w:Nat),(∀ t∈x,t.length≤60)→w≤60→x.foldl (fun w t=>max w t.length) w≤60∧w≤x.foldl (fun w t=>max w t.length) w∧∀ t∈x,t.length≤x.foldl (fun w t=>max w t.length) w
 | [],w,_,h=>⟨h,Nat.le_refl _,by simp⟩
 | t::x,w,h,hw=>by
  have ht:=h t (by simp)
  obtain ⟨k1,k2,k3⟩:=wideS_le x (max w t.length) (fun t ht=>h t (by simp [ht])) (by omega)
  refine ⟨k1,by simp only [List.foldl_cons];omega,fun s hs=>?_⟩
  rcases List.mem_cons.1 hs with rfl | hs
  ·simp only [List.foldl_cons];omega
  ·exact k3 s hs
theorem numsOf_okI {t:List UInt8}:(numsOf t).all okI=t.all okB:=by
 unfold numsOf
 induction t with
 | nil=>rfl
 | cons b t ih=>
  simp only [List.map_cons,List.all_cons,ih]
  congr 1
  rw [Bool.eq_iff_iff]
  unfold okI okB
  simp
  omega
theorem padI_ok {w:Nat} {t:List UInt8} (h:textOk t):(padI w t).all okI=true:=by
 obtain ⟨h1,h2⟩:=h
 unfold padI
 rw [List.all_cons,numsOf_okI,List.all_append,h2]
 have e:(List.replicate (w - t.length) (32:UInt8)).all okB=true:=by
  rw [List.all_eq_true]
  intro b hb
  rw [List.eq_of_mem_replicate hb]
  rfl
 rw [e,okI_iff.2 ⟨by omega,by omega⟩]
 rfl
theorem padI_len {w:Nat} {t:List UInt8} (h:t.length≤w):(padI w t).length=w+1:=by
 unfold padI
 simp [numsOf_len]
 omega
theorem rowI_len {w:Nat} {t:List UInt8} (h:t.length≤w):(rowI w t).length=w+2:=by
 unfold rowI
 simp [padI_len h]
theorem rowI_ok {w:Nat} {t:List UInt8} (h:textOk t):(rowI w t).all okI=true:=by
 unfold rowI
 rw [List.all_append,padI_ok h]
 simp [chkI_ok (padI_ok (w:=w) h)]
theorem colI_ok {rows:List (List Int)} {c:Nat} (h:∀ r∈rows,r.all okI=true∧c<r.length):(colI rows (c:Int)).all okI=true:=by
 unfold colI
 rw [List.all_eq_true]
 intro v hv
 obtain ⟨r,hr,rfl⟩:=List.mem_map.1 hv
 obtain ⟨h1,h2⟩:=h r hr
 have e:((c:Nat):Int).toNat=c:=rfl
 rw [e,List.getD_eq_getElem?_getD,List.getElem?_eq_getElem h2]
 exact List.all_eq_true.1 h1 _ (List.getElem_mem h2)
def repL (s:List UInt8) (n:Nat):List UInt8:=(List.replicate n s).flatten
abbrev fcRep:FC:=⟨.prod .str (.int .i64),.str,fun x=>0≤x.2∧x.1.length*x.2.toNat<65536,fun x=>repL x.1 x.2.toNat⟩
theorem repL_one (n:Nat) (c:UInt8):repL [c] n=List.replicate n c:=by
 unfold repL
 induction n with
 | zero=>rfl
 | succ n ih=>simp only [List.replicate_succ,List.flatten_cons,ih];rfl
abbrev fcMakeBlock:FC:=⟨.slice .str,tRowsB,fun x=>List.length x<1000∧∀ t∈(x:List (List UInt8)),textOk t,fun x=>blockI x⟩
theorem sMakeBlock (x):M.le (S_files_makeBlock fcCheckP.sh shColumn fcWrittenP.sh fcRep.sh x) (fcMakeBlock.sh x):=M.le_det fun h=>by
 change List (List UInt8) at x
 obtain ⟨h1,h2⟩:x.length<1000∧∀ t∈x,textOk t:=h
 unfold S_files_makeBlock
 show _=M.pure (blockI x)
 obtain ⟨b1,_,b3⟩:=wideS_le x 0 (fun t ht=>(h2 t ht).1) (by omega)
 change wideS x≤60 at b1
 change ∀ t∈x,t.length≤wideS x at b3
 rw [M.loop_list x (fun i (w:Nat)=>(x,(w:Int),x,(x.length:Int),(i:Int),[],())) (fun t w=>.next (max w t.length)) (fun w=>.next (x,(w:Int),[],())) (fun i w=>w≤60) 0 ?_ ?_ ?_ ?_]
 ·rw [foldS_next,M.bind_pure,M.go_next]
  dsimp only
  change M.bind (M.loop _ (((wideS x:Nat):Int),x,_,0,[],())) _=_
  generalize hW:wideS x=W at b1 b3
  rw [M.loop_list x (fun i (o:List (List Int))=>((W:Int),x,(x.length:Int),(i:Int),o,())) (fun t o=>.next (o++[rowI W t])) (fun o=>.next ((W:Int),o,())) (fun i o=>o.length=i) [] ?_ ?_ ?_ ?_]
  ·rw [foldS_next,M.bind_pure,M.go_next]
   dsimp only
   have e:x.foldl (fun o t=>o++[rowI W t]) []=x.map (rowI W):=by rw [foldl_map_app];rfl
   rw [e]
   generalize hR:x.map (rowI W)=R
   have hRl:R.length=x.length:=by rw [←hR];simp
   have hRr:∀ r∈R,r.all okI=true∧r.length=W+2:=fun r hr=>by
    rw [←hR] at hr
    obtain ⟨t,ht,rfl⟩:=List.mem_map.1 hr
    exact ⟨rowI_ok (h2 t ht),rowI_len (b3 t ht)⟩
   have hw2:IntKind.wrap .i64 (Add.add (W:Int) 2)=((W+2:Nat):Int):=by rw [add_def,wrap64 (by omega) (by omega)];omega
   rw [hw2,M.loop_list (List.range (W+2)) (fun i (o:List Int)=>(((W+2:Nat):Int),(i:Int),R,o,())) (fun (i:Nat) o=>.next (o++[chkI (colI R (i:Int))])) (fun o=>.next (R,o,())) (fun i o=>o.length=i) [] ?_ ?_ ?_ ?_]
   ·rw [foldS_next,M.bind_pure,M.go_next]
    dsimp only
    have e2:(List.range (W+2)).foldl (fun o (i:Nat)=>o++[chkI (colI R (i:Int))]) []=sumsI R (W+2):=by rw [foldl_map_app];rfl
    rw [e2,M.req_true (by show lenLe (R.length+(0+1));unfold lenLe;omega)]
    unfold blockI
    rw [hW,hR]
   ·rfl
   ·rfl
   ·intro i hi o ho
    have hi':i<W+2:=by simpa using hi
    have e2:(List.range (W+2))[i]'hi=i:=List.getElem_range ..
    have hw3:=wrap64 (n:=(i:Int)+1) (by omega) (by omega)
    refine ⟨?_,fun o' ho'=>?_⟩
    ·have hd:decide ((i:Int)<((W+2:Nat):Int))=true:=decide_eq_true (by omega)
     simp only [hd,if_true,add_def,add_defN,hw3]
     have et:R.take (R.length - (0:Int).toNat)=R:=by simp
     rw [show shColumn ((i:Int),0,R,())=M.pure (colI R (i:Int),R,()) from (M.det_true ⟨by show R.length<65536;omega,⟨Int.le_refl _,by show (0:Int)≤(R.length:Int);omega⟩,by show (0:Int)≤(i:Int);omega,fun r hr=>by have:=(hRr r hr).2;show (i:Int)<(r.length:Int);omega⟩ _).trans (by show M.pure (colI (R.take (R.length - (0:Int).toNat)) (i:Int),R,())=_;rw [et]),M.bind_pure]
     dsimp only
     rw [show fcCheckP.sh (colI R (i:Int))=M.pure (chkI (colI R (i:Int))) from M.det_true ⟨by show (colI R (i:Int)).length<65536;unfold colI;simp;omega,colI_ok fun r hr=>⟨(hRr r hr).1,by have:=(hRr r hr).2;omega⟩⟩ _,M.bind_pure,M.req_true (by unfold lenLe;omega),e2]
     rfl
    ·simp only [Step.next.injEq] at ho'
     subst ho'
     simp [ho]
   ·intro o ho
    have:(List.range (W+2)).length=W+2:=by simp
    rw [this]
    simp
  ·rfl
  ·rfl
  ·intro i hi o ho
   have hw3:=wrap64 (n:=(i:Int)+1) (by omega) (by omega)
   have ht:=h2 _ (List.getElem_mem hi)
   have htl:=b3 _ (List.getElem_mem hi)
   have ht60:=ht.1
   have w1:=wrap64 (n:=(W:Int) - (x[i].length:Int)) (by omega) (by omega)
   have en:((W:Int) - (x[i].length:Int)).toNat=W - x[i].length:=by omega
   have hp:=padI_ok (w:=W) ht
   have hpl:=padI_len htl
   refine ⟨?_,fun o' ho'=>?_⟩
   ·simp only [ofNat_def,lt_len hi,if_true,getD_nat hi,in_len hi,M.req_True,add_def,add_defN,hw3,w1]
    rw [show fcWrittenP.sh (x[i].length:Int)=M.pure ((x[i].length:Int)+32) from M.det_true (show (0:Int)≤(x[i].length:Int)∧(x[i].length:Int)≤94 from ⟨by omega,by omega⟩) _,M.bind_pure,
     show fcRep.sh ([32],(W:Int) - (x[i].length:Int))=M.pure (List.replicate (W - x[i].length) 32) from (M.det_true ⟨by show 0≤(W:Int) - (x[i].length:Int);omega,by show 1*((W:Int) - (x[i].length:Int)).toNat<65536;omega⟩ _).trans (by show M.pure (repL [32] ((W:Int) - (x[i].length:Int)).toNat)=_;rw [repL_one,en]),M.bind_pure]
    have hl2:(x[i]++List.replicate (W - x[i].length) (32:UInt8)).length≤60:=by simp;omega
    rw [M.req_true (by unfold lenLe;simp;omega),M.req_true (by unfold lenLe;rw [numsOf_len];omega),
     show fcCheckP.sh ([(x[i].length:Int)+32]++numsOf (x[i]++List.replicate (W - x[i].length) 32))=M.pure (chkI (padI W x[i])) from M.det_true ⟨by show (padI W x[i]).length<65536;omega,hp⟩ _,M.bind_pure,
     M.req_true (by unfold lenLe;rw [numsOf_len];omega),M.req_true (by unfold lenLe;omega)]
    rfl
   ·simp only [Step.next.injEq] at ho'
    subst ho'
    simp [ho]
  ·intro o ho
   simp
 ·rfl
 ·omega
 ·intro i hi w hw
  have hw3:=wrap64 (n:=(i:Int)+1) (by omega) (by omega)
  have ht:=(h2 _ (List.getElem_mem hi)).1
  refine ⟨?_,fun o' ho'=>?_⟩
  ·simp only [ofNat_def,lt_len hi,if_true,getD_nat hi,in_len hi,M.req_True,add_def,hw3]
   have e:(if (x[i].length:Int) > (w:Int) then (x[i].length:Int) else (w:Int))=((max w x[i].length:Nat):Int):=by split<;>omega
   rw [e]
   rfl
  ·simp only [Step.next.injEq] at ho'
   subst ho'
   omega
 ·intro w hw
  simp
end Go.Fer
namespace Go.Fer
open M (Step)
set_option linter.unusedVariables false
set_option linter.unusedSimpArgs false
def chunk8 {α:Type}:Nat→List α→List (List α)
 | 0,_=>[]
 | _+1,[]=>[]
 | f+1,l=>l.take 8::chunk8 f (l.drop 8)
def chunks {α:Type} (l:List α):List (List α):=chunk8 l.length l
def chunkS (x:Option (List (List UInt8))×Option Int) (L:List (List (List UInt8))):Prop:=∃ l,x=(some l,some 8)∧l.length<65536∧L=chunks l
abbrev fcChunk:FC:=⟨.prod (.slice .str) (.int .i64),.it (.slice .str),fun x=>x.2=8∧List.length x.1<65536,fun x=>chunkS (some x.1,some x.2)⟩
theorem sChunk (x):M.le (S_slices_Chunk_string_string chunkS x) (fcChunk.sh x):=M.le_det fun h=>by
 obtain ⟨l,n⟩:=x
 obtain ⟨rfl,h2⟩:n=8∧l.length<65536:=h
 unfold S_slices_Chunk_string_string
 simp
theorem chunk8_mem {α:Type}:∀ (f:Nat) (l:List α),∀ c∈chunk8 f l,c.length≤8∧1≤c.length∧∀ t∈c,t∈l
 | 0,_,c,h=>by cases h
 | _+1,[],c,h=>by cases h
 | f+1,t::l,c,h=>by
  unfold chunk8 at h
  rcases List.mem_cons.1 h with rfl | h
  ·exact ⟨by simp;omega,by simp,fun s hs=>List.mem_of_mem_take hs⟩
  ·obtain ⟨h1,h2,h3⟩:=chunk8_mem f _ c h
   exact ⟨h1,h2,fun s hs=>List.mem_of_mem_drop (h3 s hs)⟩
theorem chunk8_len {α:Type}:∀ (f:Nat) (l:List α),(chunk8 f l).length≤l.length
 | 0,_=>Nat.zero_le _
 | _+1,[]=>Nat.le_refl _
 | f+1,t::l=>by
  unfold chunk8
  have:=chunk8_len f ((t::l).drop 8)
  simp only [List.length_cons,List.length_drop] at this ⊢
  omega
theorem numsOf_bytesOf:∀ {z:List Int},(∀ v∈z,0≤v∧v≤255)→numsOf (bytesOf z)=z
 | [],_=>rfl
 | v::z,h=>by
  have ih:=numsOf_bytesOf fun v hv=>h v (List.mem_cons_of_mem _ hv)
  have hv:=h v (by simp)
  unfold numsOf bytesOf at *
  simp only [List.map_cons,ih,List.cons.injEq,and_true]
  have:(UInt8.ofNat v.toNat).toNat=v.toNat:=by simp;omega
  rw [this]
  omega
theorem bytesOf_numsOf (s:List UInt8):bytesOf (numsOf s)=s:=by
 unfold bytesOf numsOf
 induction s with
 | nil=>rfl
 | cons b s ih=>simp only [List.map_cons,ih];simp
theorem linesI_le {m:Nat}:∀ (l:List (List Int)),(∀ r∈l,r.length≤m)→(linesI l).length≤l.length*(m+1)
 | [],_=>Nat.zero_le _
 | r::l,h=>by
  have:=linesI_le l fun r hr=>h r (List.mem_cons_of_mem _ hr)
  have:=h r (by simp)
  unfold linesI at *
  simp only [List.flatMap_cons,List.length_append,List.length_cons,List.length_nil,Nat.add_mul]
  omega
theorem blockI_rows {x:List (List UInt8)} (h:∀ t∈x,textOk t):∀ r∈blockI x,r.length=wideS x+2∧r.all okI=true:=by
 obtain ⟨b1,_,b3⟩:=wideS_le x 0 (fun t ht=>(h t ht).1) (by omega)
 have hR:∀ r∈x.map (rowI (wideS x)),r.all okI=true∧r.length=wideS x+2:=fun r hr=>by
  obtain ⟨t,ht,rfl⟩:=List.mem_map.1 hr
  exact ⟨rowI_ok (h t ht),rowI_len (b3 t ht)⟩
 intro r hr
 unfold blockI at hr
 rcases List.mem_append.1 hr with hr | hr
 ·exact ⟨(hR r hr).2,(hR r hr).1⟩
 ·rw [List.mem_singleton] at hr
  subst hr
  unfold sumsI
  refine ⟨by simp,?_⟩
  rw [List.all_eq_true]
  intro v hv
  obtain ⟨c,hc,rfl⟩:=List.mem_map.1 hv
  have hc:=List.mem_range.1 hc
  exact chkI_ok (colI_ok fun r hr=>⟨(hR r hr).1,by have:=(hR r hr).2;omega⟩)
theorem wideS_60 {x:List (List UInt8)} (h:∀ t∈x,textOk t):wideS x≤60:=(wideS_le x 0 (fun t ht=>(h t ht).1) (by omega)).1
theorem textI_byte {l:List (List Int)} (h:∀ r∈l,r.all okI=true):∀ v∈textI l,0≤v∧v≤255:=by
 intro v hv
 unfold textI linesI at hv
 rcases List.mem_append.1 hv with hv | hv
 ·obtain ⟨r,hr,hv⟩:=List.mem_flatMap.1 hv
  rcases List.mem_append.1 hv with hv | hv
  ·have:=okI_iff.1 (List.all_eq_true.1 (h r hr) v hv);omega
  ·rw [List.mem_singleton] at hv;omega
 ·rw [List.mem_singleton] at hv;omega
def fileI (x:List (List UInt8)):List Int:=(chunks x).flatMap fun l=>textI (blockI l)
theorem rounds_file:∀ (L:List (List (List UInt8))) (acc:List Int),(∀ l∈L,l.length≤8∧∀ t∈l,textOk t)→acc.length+600*L.length<1000000→
  rounds (fun (σ:List Int×Unit) (y:List Str)=>M.bind (M.bind (fcMakeBlock.sh y) fun y=>M.bind (fcText.sh y) fun y=>M.bind (shWStr (y,σ.1,())) fun y=>M.pure (Ex.normal,y.2.1,())) fun p=>M.pure (p.1,p.2.1,())) L (acc,())=M.pure (.normal,acc++L.flatMap (fun l=>textI (blockI l)),())
 | [],acc,_,_=>by simp [rounds]
 | l::L,acc,h,hb=>by
  obtain ⟨h1,h2⟩:=h l (by simp)
  have hrow:=blockI_rows h2
  have hw:=wideS_60 h2
  have hlen:(textI (blockI l)).length≤600:=by
   have h3:=linesI_le (m:=wideS l+2) (blockI l) fun r hr=>Nat.le_of_eq (hrow r hr).1
   have h4:(blockI l).length=l.length+1:=by unfold blockI;simp
   unfold textI
   rw [h4] at h3
   have h5:(l.length+1)*(wideS l+2+1)≤9*63:=Nat.mul_le_mul (by omega) (by omega)
   simp only [List.length_append,List.length_singleton]
   omega
  have hby:=textI_byte fun r hr=>(hrow r hr).2
  unfold rounds
  rw [show fcMakeBlock.sh l=M.pure (blockI l) from M.det_true (show l.length<1000∧∀ t∈l,textOk t from ⟨by omega,h2⟩) _,M.bind_pure,
   show fcText.sh (blockI l)=M.pure (bytesOf (textI (blockI l))) from M.det_true (show (blockI l).length<65536∧∀ r∈blockI l,r.length<65535 from ⟨by unfold blockI;simp;omega,fun r hr=>by have:=(hrow r hr).1;omega⟩) _,M.bind_pure]
  have hl2:(bytesOf (textI (blockI l))).length=(textI (blockI l)).length:=by simp [bytesOf]
  rw [show shWStr (bytesOf (textI (blockI l)),acc,())=M.pure (((bytesOf (textI (blockI l))).length:Int),acc++textI (blockI l),()) from (M.det_true (by show lenLe (acc.length+_);rw [hl2];unfold lenLe;simp only [List.length_cons] at hb;omega) _).trans (by show M.pure (_,acc++numsOf _,())=_;rw [numsOf_bytesOf hby]),M.bind_pure,M.bind_pure,M.bind_pure]
  dsimp only
  rw [rounds_file L (acc++textI (blockI l)) (fun l hl=>h l (List.mem_cons_of_mem _ hl)) (by simp only [List.length_append,List.length_cons] at hb ⊢;omega)]
  simp
abbrev fcFile:FC:=⟨.slice .str,.str,fun x=>List.length x≤40∧∀ t∈(x:List (List UInt8)),textOk t,fun x=>bytesOf (fileI x)⟩
theorem sFile (x):M.le (S_files_file fcText.sh fcChunk.sh shWStr fcMakeBlock.sh shBStr x) (fcFile.sh x):=M.le_detR fun h=>by
 change List (List UInt8) at x
 obtain ⟨h1,h2⟩:x.length≤40∧∀ t∈x,textOk t:=h
 unfold S_files_file
 rw [M.bind_pure,M.go_next]
 dsimp only
 rw [show fcChunk.sh (x,8)=M.pure (chunkS (some x,some 8)) from M.det_true (show (8:Int)=8∧x.length<65536 from ⟨rfl,by omega⟩) _,M.bind_pure,M.ret_bind]
 refine ⟨⟨_,x,rfl,by omega,rfl⟩,fun L hL=>?_⟩
 obtain ⟨l,e,_,rfl⟩:=hL
 cases e
 have hc:=chunk8_len x.length x
 rw [rounds_file (chunks x) [] (fun l hl=>⟨(chunk8_mem _ _ l hl).1,fun t ht=>h2 t ((chunk8_mem _ _ l hl).2.2 t ht)⟩) (by show 0+600*(chunk8 x.length x).length<_;omega),M.bind_pure]
 show M.Ret (exC (M.bind (M.pure (bytesOf (fileI x),())) fun y=>M.pure y.1) _ _ _) _
 rw [M.bind_pure]
 exact M.ret_pure.2 rfl
end Go.Fer
namespace Go.Fer
open M (Step)
set_option linter.unusedVariables false
set_option linter.unusedSimpArgs false
section
variable {α:Type}
def G_IndexFunc (d:α) (x:List α×(α→M Bool)):M Int:=
 M.bind (M.loop (fun (σ:List α×(α→M Bool)×Int×Int×Unit)=>if decide (σ.2.2.2.1<σ.2.2.1)=true then M.req (0≤σ.2.2.2.1∧
 σ.2.2.2.1<Int.ofNat (List.length σ.1)) (M.bind (σ.2.1 (List.getD σ.1 (Int.toNat σ.2.2.2.1) d)) fun y=>if y=true then M.bind (M.bind (M.pure
 σ.2.2.2.1) fun r=>M.pure (Step.done r)) fun r=>M.pure (Step.done r) else M.pure (Step.next (σ.1,σ.2.1,σ.2.2.1,IntKind.wrap .i64 (Add.add
 σ.2.2.2.1 1),()))) else M.bind (M.pure (Step.next ())) fun r=>M.pure (Step.done r)) (x.1,x.2,Int.ofNat (List.length x.1),0,())) (Step.go fun (σ
 : Unit)=>M.pure (-1))
def G_ContainsFunc (c:List α×(α→M Bool)→M Int) (x:List α×(α→M Bool)):M Bool:=M.bind (c x) fun y=>M.pure (decide (y≥0))
def idxV (p:α→Bool):List α→Int→Int
 | [],_=>-1
 | x::l,i=>if p x=true then i else idxV p l (i+1)
theorem idxV_ge (p:α→Bool):∀ (l:List α) (i:Int),0≤i→(decide (idxV p l i≥0))=l.any p
 | [],i,_=>by simp [idxV]
 | x::l,i,h=>by
  simp only [idxV,List.any_cons]
  by_cases hx:p x=true
  ·simp [hx];omega
  ·have:=idxV_ge p l (i+1) (by omega)
   simpa [hx] using this
theorem foldS_idx (p:α→Bool):∀ (l:List α) (i:Int),foldS (fun x (i:Int)=>if p x=true then (.done (.done i):Step Int (Step Unit Int)) else .next (i+1)) (fun _=>.next ()) l i=if l.any p=true then .done (idxV p l i) else .next ()
 | [],i=>by simp [foldS]
 | x::l,i=>by
  simp only [foldS,List.any_cons,idxV]
  by_cases hx:p x=true
  ·simp [hx]
  ·have:=foldS_idx p l (i+1)
   simpa [hx] using this
theorem gIndexFunc (d:α) (l:List α) (f:α→M Bool) (h:l.length<2 ^ 63) (hf:∀ y∈l,∃ b,f y=M.pure b):G_IndexFunc d (l,f)=M.pure (idxV (fun y=>(f y).val false) l 0):=by
 unfold G_IndexFunc
 rw [M.loop_list l (fun i (b:Int)=>(l,f,(l.length:Int),b,())) (fun y (i:Int)=>if (f y).val false=true then (.done (.done i):Step Int (Step Unit Int)) else .next (i+1)) (fun _=>.next ()) (fun i b=>b=(i:Int)) 0 ?_ ?_ ?_ ?_]
 ·rw [foldS_idx (fun y=>(f y).val false)]
  by_cases ha:(l.any fun y=>(f y).val false)=true
  ·simp [ha]
  ·have:idxV (fun y=>(f y).val false) l 0=-1:=by
    have:∀ (l:List α) (i:Int),¬(l.any fun y=>(f y).val false)=true→idxV (fun y=>(f y).val false) l i=-1:=by
     intro l
     induction l with
     | nil=>intro i _;rfl
     | cons x l ih=>
      intro i hn
      simp only [List.any_cons,Bool.or_eq_true,not_or] at hn
      simp only [idxV,hn.1,Bool.false_eq_true,if_false]
      exact ih _ hn.2
    exact this l 0 ha
   simp [ha,this]
 ·rfl
 ·rfl
 ·intro i hi b hb
  subst hb
  have hw:=wrap64 (n:=(i:Int)+1) (by omega) (by omega)
  refine ⟨?_,fun b' hb'=>?_⟩
  ·obtain ⟨b,hb⟩:=hf _ (List.getElem_mem hi)
   simp only [ofNat_def,lt_len hi,if_true,getD_nat hi,in_len hi,M.req_True,hb,M.val_pure,M.bind_pure,add_def,hw]
   split<;>rfl
  ·split at hb'
   ·cases hb'
   ·cases hb';omega
 ·intro b hb
  subst hb
  simp
end
abbrev fcIndexFunc (e:Ty):FC:=⟨.prod (.slice e) (.fn e .bool),.int .i64,fun x=>x.1.length<2 ^ 63∧∀ y∈x.1,∃ b,x.2 y=M.pure b,fun x=>idxV (fun y=>(x.2 y).val false) x.1 0⟩
theorem sIndexFunc (e:Ty) (x):M.le (G_IndexFunc e.dflt x) ((fcIndexFunc e).sh x):=M.le_det fun h=>gIndexFunc e.dflt x.1 x.2 h.1 h.2
abbrev fcContainsFunc (e:Ty):FC:=⟨.prod (.slice e) (.fn e .bool),.bool,fun x=>x.1.length<2 ^ 63∧∀ y∈x.1,∃ b,x.2 y=M.pure b,fun x=>x.1.any fun y=>(x.2 y).val false⟩
theorem sContainsFunc (e:Ty) (x):M.le (G_ContainsFunc (fcIndexFunc e).sh x) ((fcContainsFunc e).sh x):=M.le_det fun h=>by
 unfold G_ContainsFunc
 simp only [FC.sh,fcIndexFunc,M.bind_det]
 rw [M.req_true (by exact h)]
 exact congrArg M.pure (idxV_ge (fun y=>(x.2 y).val false) x.1 0 (by omega))
theorem sIndexFuncT (x):M.le (S_slices_IndexFunc_string_string x) ((fcIndexFunc .str).sh x):=sIndexFunc .str x
theorem sContainsFuncT (x):M.le (S_slices_ContainsFunc_string_string (fcIndexFunc .str).sh x) ((fcContainsFunc .str).sh x):=sContainsFunc .str x
theorem sIndexFuncB (x):M.le (S_slices_IndexFunc_files_block_byte x) ((fcIndexFunc (.slice (.int .u8))).sh x):=sIndexFunc (.slice (.int .u8)) x
theorem sContainsFuncB (x):M.le (S_slices_ContainsFunc_files_block_byte (fcIndexFunc (.slice (.int .u8))).sh x) ((fcContainsFunc (.slice (.int .u8))).sh x):=sContainsFunc (.slice (.int .u8)) x
abbrev fcIsT:FC:=⟨.str,.bool,fun _=>True,fun s=>List.all s okB⟩
def badT (t:List UInt8):Bool:=decide (t.length > 60)||!t.all okB
abbrev fcBadT:FC:=⟨.str,.bool,fun _=>True,fun t=>badT t⟩
theorem sBadT (x):M.le (S_files_Write_c1 fcIsT.sh x) (fcBadT.sh x):=M.le_det fun _=>by
 change List UInt8 at x
 unfold S_files_Write_c1
 show _=M.pure (badT x)
 have e:decide (Int.ofNat (List.length x) > 60)=decide (x.length > 60):=by rw [Bool.eq_iff_iff];simp [ofNat_def];omega
 simp only [e,FC.sh,M.det_True,M.gdo_pure,M.bind_pure]
 unfold badT
 congr 1
 cases decide (x.length > 60)<;>simp
theorem badT_no {t:List UInt8}:badT t=false↔textOk t:=by
 unfold badT textOk
 simp
def writeV (x:List (List UInt8)):List UInt8×Int:=if x.length > 40 then ([],2) else if x.any badT=true then ([],1) else (bytesOf (fileI x),0)
abbrev fcWriteP:FC:=⟨.slice .str,.prod .str (.int .i64),fun x=>List.length x<2 ^ 63,fun x=>writeV x⟩
theorem sWriteP (x):M.le (S_files_Write (fcContainsFunc .str).sh fcFile.sh fcBadT.sh x) (fcWriteP.sh x):=M.le_det fun h=>by
 change List (List UInt8) at x
 change x.length<2 ^ 63 at h
 unfold S_files_Write
 show _=M.pure (writeV x)
 have e:decide (Int.ofNat (List.length x) > 40)=decide (x.length > 40):=by rw [Bool.eq_iff_iff];simp [ofNat_def];omega
 rw [e]
 unfold writeV
 by_cases h1:x.length > 40
 ·rw [if_pos h1,decide_eq_true h1,if_pos rfl]
 ·rw [if_neg h1,decide_eq_false h1,if_neg (by decide)]
  have hb:∀ t:List UInt8,fcBadT.sh t=M.pure (badT t):=fun t=>M.det_true trivial _
  rw [show (fcContainsFunc .str).sh (x,fcBadT.sh)=M.pure (x.any badT) from (M.det_true (show x.length<2 ^ 63∧∀ y∈x,∃ b,fcBadT.sh y=M.pure b from ⟨h,fun y _=>⟨_,hb y⟩⟩) _).trans (by
   congr 1
   show (x.any fun y=>(fcBadT.sh y).val false)=x.any badT
   congr 1
   funext y
   rw [hb,M.val_pure]),M.bind_pure]
  by_cases h2:x.any badT=true
  ·rw [if_pos h2,if_pos h2]
  ·rw [if_neg h2,if_neg h2,show fcFile.sh x=M.pure (bytesOf (fileI x)) from M.det_true (show x.length≤40∧∀ t∈x,textOk t from ⟨by omega,fun t ht=>badT_no.1 (by
    cases hq:badT t with
    | false=>rfl
    | true=>exact absurd (List.any_eq_true.2 ⟨t,ht,hq⟩) h2)⟩) _,M.bind_pure]
end Go.Fer
namespace Go.Fer
open M (Step)
set_option linter.unusedVariables false
set_option linter.unusedSimpArgs false
theorem tmod_pos {a:Int} (h:0≤a):Int.tmod a 95=a % 95:=Int.tmod_eq_emod_of_nonneg h
theorem numsOf_app (a b:List UInt8):numsOf (a++b)=numsOf a++numsOf b:=by simp [numsOf]
theorem numsOf_get (r:List UInt8) (i:Nat):(numsOf r).getD i 0=((r.getD i 0).toNat:Int):=by
 unfold numsOf
 rw [List.getD_eq_getElem?_getD,List.getD_eq_getElem?_getD,List.getElem?_map]
 cases r[i]?<;>rfl
def chkS (t:List UInt8):UInt8:=wrB (Int.tmod (sumB t) 95)
theorem foldl_addI:∀ (t:List UInt8) (n:Int),0≤n→t.all okB=true→(numsOf t).foldl addI (Int.tmod n 95)=Int.tmod (t.foldl (fun n b=>n+valB b) n) 95
 | [],n,_,_=>rfl
 | b::t,n,h,ha=>by
  simp only [List.all_cons,Bool.and_eq_true] at ha
  obtain ⟨h1,h2⟩:=okB_iff.1 ha.1
  have e:addI (Int.tmod n 95) (b.toNat:Int)=Int.tmod (n+valB b) 95:=by
   unfold addI valB at *
   rw [tmod_pos h,tmod_pos (by omega),tmod_pos (by omega)]
   omega
  show (numsOf t).foldl addI (addI (Int.tmod n 95) (b.toNat:Int))=_
  rw [e]
  exact foldl_addI t _ (by omega) ha.2
theorem sumI_numsOf {t:List UInt8} (h:t.all okB=true):sumI (numsOf t)=Int.tmod (sumB t) 95:=foldl_addI t 0 (Int.le_refl _) h
theorem wrB_nat {n:Int} (h:0≤n) (h2:n≤94):((wrB n).toNat:Int)=n+32:=by
 unfold wrB
 have:(UInt8.ofNat (n+32).toNat).toNat=(n+32).toNat:=by simp;omega
 rw [this]
 omega
theorem chkS_nat {t:List UInt8} (h:t.all okB=true):((chkS t).toNat:Int)=chkI (numsOf t):=by
 have hb:=sumI_bound (numsOf t) 0 (Int.le_refl _) (by decide) (by rw [numsOf_okI];exact h)
 unfold chkS chkI
 rw [←sumI_numsOf h]
 exact wrB_nat hb.1 hb.2
def colS (l:List (List UInt8)) (c:Int):List UInt8:=l.map fun r=>r.getD c.toNat 0
theorem colS_nums (l:List (List UInt8)) (c:Int):numsOf (colS l c)=colI (l.map numsOf) c:=by
 unfold colS colI
 show List.map _ (List.map _ l)=_
 rw [List.map_map,List.map_map]
 apply List.map_congr_left
 intro r _
 exact (numsOf_get r c.toNat).symm
def linesS (l:List (List UInt8)):List UInt8:=l.flatMap fun r=>r++[10]
def textS (l:List (List UInt8)):List UInt8:=linesS l++[10]
theorem linesS_nums:∀ (l:List (List UInt8)),numsOf (linesS l)=linesI (l.map numsOf)
 | []=>rfl
 | r::l=>by
  have ih:=linesS_nums l
  unfold linesS linesI at *
  simp only [List.flatMap_cons,List.map_cons,numsOf_app,ih]
  rfl
theorem textS_nums (l:List (List UInt8)):numsOf (textS l)=textI (l.map numsOf):=by
 unfold textS textI
 rw [numsOf_app,linesS_nums]
 rfl
end Go.Fer
namespace Go.Fer
open M (Step)
set_option linter.unusedVariables false
set_option linter.unusedSimpArgs false
def padS (w:Nat) (t:List UInt8):List UInt8:=wrB (t.length:Int)::t++List.replicate (w - t.length) 32
def rowS (w:Nat) (t:List UInt8):List UInt8:=padS w t++[chkS (padS w t)]
def sumsS (rows:List (List UInt8)) (n:Nat):List UInt8:=(List.range n).map fun c:Nat=>chkS (colS rows (c:Int))
def blockS (x:List (List UInt8)):List (List UInt8):=x.map (rowS (wideS x))++[sumsS (x.map (rowS (wideS x))) (wideS x+2)]
theorem padS_nums {w:Nat} {t:List UInt8} (h:t.length≤60):numsOf (padS w t)=padI w t:=by
 unfold padS padI
 show ((wrB (t.length:Int)).toNat:Int)::numsOf (t++List.replicate (w - t.length) 32)=_
 rw [wrB_nat (by omega) (by omega)]
theorem padS_ok {w:Nat} {t:List UInt8} (h:textOk t):(padS w t).all okB=true:=by
 rw [←numsOf_okI,padS_nums h.1]
 exact padI_ok h
theorem chkS_nums {t:List UInt8} (h:t.all okB=true):numsOf [chkS t]=[chkI (numsOf t)]:=by
 show [((chkS t).toNat:Int)]=_
 rw [chkS_nat h]
theorem rowS_nums {w:Nat} {t:List UInt8} (h:textOk t):numsOf (rowS w t)=rowI w t:=by
 unfold rowS rowI
 rw [numsOf_app,padS_nums h.1,chkS_nums (padS_ok h),padS_nums h.1]
theorem rowS_len {w:Nat} {t:List UInt8} (h:textOk t) (hw:t.length≤w):(rowS w t).length=w+2:=by
 rw [←numsOf_len,rowS_nums h,rowI_len hw]
theorem rowS_ok {w:Nat} {t:List UInt8} (h:textOk t):(rowS w t).all okB=true:=by
 rw [←numsOf_okI,rowS_nums h]
 exact rowI_ok h
theorem colS_ok {rows:List (List UInt8)} {c:Nat} (h:∀ r∈rows,r.all okB=true∧c<r.length):(colS rows (c:Int)).all okB=true:=by
 rw [←numsOf_okI,colS_nums]
 refine colI_ok fun r hr=>?_
 obtain ⟨t,ht,rfl⟩:=List.mem_map.1 hr
 rw [numsOf_okI,numsOf_len]
 exact h t ht
theorem blockS_nums {x:List (List UInt8)} (h:∀ t∈x,textOk t):(blockS x).map numsOf=blockI x:=by
 obtain ⟨b1,_,b3⟩:=wideS_le x 0 (fun t ht=>(h t ht).1) (by omega)
 change ∀ t∈x,t.length≤wideS x at b3
 have e1:(x.map (rowS (wideS x))).map numsOf=x.map (rowI (wideS x)):=by
  rw [List.map_map]
  exact List.map_congr_left fun t ht=>rowS_nums (h t ht)
 unfold blockS blockI
 rw [List.map_append,e1]
 congr 1
 show [numsOf (sumsS _ _)]=_
 congr 1
 unfold sumsS sumsI
 show List.map _ (List.map _ _)=_
 rw [List.map_map]
 refine List.map_congr_left fun c hc=>?_
 have hc:=List.mem_range.1 hc
 show ((chkS (colS (x.map (rowS (wideS x))) (c:Int))).toNat:Int)=_
 rw [chkS_nat (colS_ok fun r hr=>by
  obtain ⟨t,ht,rfl⟩:=List.mem_map.1 hr
  exact ⟨rowS_ok (h t ht),by rw [rowS_len (h t ht) (b3 t ht)];exact hc⟩),colS_nums,e1]
end Go.Fer
namespace Go.Fer
open M (Step)
set_option linter.unusedVariables false
set_option linter.unusedSimpArgs false
theorem chunk8_get {α:Type}:∀ (f:Nat) (l:List α),l.length≤f→∀ k,(chunk8 f l)[k]?=if 8*k<l.length then some ((l.drop (8*k)).take 8) else none
 | 0,l,h,k=>by
  have:l=[]:=List.eq_nil_of_length_eq_zero (by omega)
  subst this
  simp [chunk8]
 | f+1,[],_,k=>by simp [chunk8]
 | f+1,t::l,h,0=>by simp [chunk8]
 | f+1,t::l,h,k+1=>by
  unfold chunk8
  rw [List.getElem?_cons_succ,chunk8_get f _ (by simp at h ⊢;omega) k,List.drop_drop]
  have e:8+8*k=8*(k+1):=by omega
  rw [e]
  simp only [List.length_drop]
  by_cases hk:8*(k+1)<(t::l).length
  ·rw [if_pos hk,if_pos (by omega)]
  ·rw [if_neg hk,if_neg (by omega)]
theorem chunks_lt {α:Type} {l:List α} {k:Nat}:k<(chunks l).length↔8*k<l.length:=by
 have h:=chunk8_get l.length l (Nat.le_refl _) k
 unfold chunks
 constructor
 ·intro hk
  rw [List.getElem?_eq_getElem hk] at h
  by_cases hc:8*k<l.length
  ·exact hc
  ·rw [if_neg hc] at h;cases h
 ·intro hk
  rw [if_pos hk] at h
  exact (List.getElem?_eq_some_iff.1 h).1
theorem chunks_get {α:Type} {l:List α} {k:Nat} (hk:k<(chunks l).length):(chunks l)[k]=(l.drop (8*k)).take 8:=by
 have h:=chunk8_get l.length l (Nat.le_refl _) k
 rw [if_pos (chunks_lt.1 hk)] at h
 have h2:(chunks l)[k]?=some ((l.drop (8*k)).take 8):=h
 rw [List.getElem?_eq_getElem hk] at h2
 exact Option.some.inj h2
theorem chunks_mem {l:List (List UInt8)} (h:∀ t∈l,textOk t):∀ c∈chunks l,c.length≤8∧1≤c.length∧∀ t∈c,textOk t:=fun c hc=>
 let ⟨h1,h2,h3⟩:=chunk8_mem _ _ c hc
 ⟨h1,h2,fun t ht=>h t (h3 t ht)⟩
theorem blockS_rows {x:List (List UInt8)} (h:∀ t∈x,textOk t):∀ r∈blockS x,r.length=wideS x+2∧r.all okB=true:=fun r hr=>by
 have:=blockI_rows h (numsOf r) (by rw [←blockS_nums h];exact List.mem_map_of_mem hr)
 rw [numsOf_len,numsOf_okI] at this
 exact this
theorem blockS_len (x:List (List UInt8)):(blockS x).length=x.length+1:=by unfold blockS;simp
def fileS (x:List (List UInt8)):List UInt8:=(chunks x).flatMap fun l=>textS (blockS l)
theorem flatMap_nums {β:Type} {f:β→List UInt8} {g:β→List Int}:∀ (l:List β),(∀ y∈l,numsOf (f y)=g y)→numsOf (l.flatMap f)=l.flatMap g
 | [],_=>rfl
 | y::l,h=>by
  rw [List.flatMap_cons,List.flatMap_cons,numsOf_app,h y (by simp),flatMap_nums l fun z hz=>h z (List.mem_cons_of_mem _ hz)]
theorem fileS_nums {x:List (List UInt8)} (h:∀ t∈x,textOk t):numsOf (fileS x)=fileI x:=
 flatMap_nums _ fun l hl=>by rw [textS_nums,blockS_nums (chunks_mem h l hl).2.2]
def writeS (x:List (List UInt8)):List UInt8×Int:=if x.length > 40 then ([],2) else if x.any badT=true then ([],1) else (fileS x,0)
theorem writeS_eq (x:List (List UInt8)):writeV x=writeS x:=by
 unfold writeV writeS
 by_cases h1:x.length > 40
 ·rw [if_pos h1,if_pos h1]
 ·rw [if_neg h1,if_neg h1]
  by_cases h2:x.any badT=true
  ·rw [if_pos h2,if_pos h2]
  ·rw [if_neg h2,if_neg h2,←fileS_nums fun t ht=>badT_no.1 (by
    cases hq:badT t with
    | false=>rfl
    | true=>exact absurd (List.any_eq_true.2 ⟨t,ht,hq⟩) h2),bytesOf_numsOf]
end Go.Fer
namespace Go.Fer
open M (Step)
set_option linter.unusedVariables false
set_option linter.unusedSimpArgs false
def lineBad (n:Nat) (r:List UInt8):Bool:=decide (r.length≠n)||decide (r.length<2)||decide (r.length > 62)||!r.all okB
def isBlockV (x:List (List UInt8)):Bool:=decide (2≤x.length)&&decide (x.length≤9)&&x.all fun r=>!lineBad (x.getD 0 []).length r
end Go.Fer
namespace Go.Fer
open M (Step)
set_option linter.unusedVariables false
set_option linter.unusedSimpArgs false
abbrev BSt:Type:=List UInt8×List (List (List UInt8))×List (List UInt8)
def blkF (b:UInt8) (s:BSt):Step BSt (Step (List UInt8×List (List (List UInt8))×List (List UInt8)×Unit) (Bool×List (List (List UInt8))×Unit)):=
 if b≠10 then .next (s.1++[b],s.2.1,s.2.2) else if s.1≠[] then .next ([],s.2.1,s.2.2++[s.1]) else if isBlockV s.2.2=true then .next (s.1,s.2.1++[s.2.2],[]) else .done (.done (false,[],()))
def blkG (file:List UInt8) (s:BSt):Step (List UInt8×List (List (List UInt8))×List (List UInt8)×Unit) (Bool×List (List (List UInt8))×Unit):=foldS blkF (fun s=>.next (s.1,s.2.1,s.2.2,())) file s
def blkE (r:Step (List UInt8×List (List (List UInt8))×List (List UInt8)×Unit) (Bool×List (List (List UInt8))×Unit)):Bool×List (List (List UInt8)):=
 match r with
 | .next s=>(decide (s.1=[])&&decide (s.2.2.1.length=0),s.2.1)
 | .done r=>(r.1,r.2.1)
def blocksV (file:List UInt8):Bool×List (List (List UInt8)):=blkE (blkG file ([],[],[]))
end Go.Fer
namespace Go.Fer
open M (Step)
set_option linter.unusedVariables false
set_option linter.unusedSimpArgs false
def shaped (W:Nat) (l:List (List UInt8)):Prop:=2≤l.length∧l.length≤9∧2≤W∧W≤62∧∀ r∈l,r.length=W∧r.all okB=true
theorem shaped_of {l:List (List UInt8)} (h:isBlockV l=true):shaped (l.getD 0 []).length l:=by
 unfold isBlockV at h
 simp only [Bool.and_eq_true,decide_eq_true_eq] at h
 obtain ⟨⟨h1,h2⟩,h3⟩:=h
 have hr:∀ r∈l,r.length=(l.getD 0 []).length∧2≤r.length∧r.length≤62∧r.all okB=true:=fun r hr=>by
  have:=List.all_eq_true.1 h3 r hr
  unfold lineBad at this
  simp only [Bool.not_or,Bool.and_eq_true,Bool.not_eq_true',decide_eq_false_iff_not,Bool.not_not,ne_eq] at this
  obtain ⟨⟨⟨k1,k2⟩,k3⟩,k4⟩:=this
  exact ⟨Decidable.not_not.1 k1,by omega,by omega,by simpa using k4⟩
 have h0:l.getD 0 []∈l:=by
  rw [List.getD_eq_getElem?_getD,List.getElem?_eq_getElem (by omega:0<l.length)]
  exact List.getElem_mem _
 obtain ⟨k1,k2,k3,k4⟩:=hr _ h0
 exact ⟨h1,h2,k2,k3,fun r h=>⟨(hr r h).1,(hr r h).2.2.2⟩⟩
def idxI (n:Nat):List Int:=(List.range n).map fun i:Nat=>(i:Int)
theorem idxI_len (n:Nat):(idxI n).length=n:=by simp [idxI]
theorem idxI_get {n i:Nat} (h:i<(idxI n).length):(idxI n)[i]=(i:Int):=by simp [idxI]
def rowBadS (W:Nat) (r:List UInt8):Bool:=decide (chkS (r.take (W - 1))≠r.getD (W - 1) 0)
def colBadS (l:List (List UInt8)) (c:Nat):Bool:=decide (chkS (colS (l.take (l.length - 1)) (c:Int))≠(l.getD (l.length - 1) []).getD c 0)
def badRows (W:Nat) (l:List (List UInt8)):List Int:=(idxI l.length).filter fun v=>rowBadS W (l.getD v.toNat [])
def badCols (W:Nat) (l:List (List UInt8)):List Int:=(idxI W).filter fun v=>colBadS l v.toNat
theorem all_take {l:List UInt8} {p:UInt8→Bool} (h:l.all p=true) (n:Nat):(l.take n).all p=true:=List.all_eq_true.2 fun x hx=>List.all_eq_true.1 h x (List.mem_of_mem_take hx)
end Go.Fer
namespace Go.Fer
open M (Step)
set_option linter.unusedVariables false
set_option linter.unusedSimpArgs false
theorem blkG_out:∀ (f:List UInt8) (s:BSt),(∀ l∈s.2.1,isBlockV l=true)→(∀ l∈(blkE (blkG f s)).2,isBlockV l=true)∧(blkE (blkG f s)).2.length≤s.2.1.length+f.length
 | [],s,h=>⟨h,Nat.le_refl _⟩
 | b::f,s,h=>by
  have ih:=blkG_out f
  unfold blkG at ih ⊢
  simp only [foldS,blkF]
  by_cases h1:b≠10
  ·simp only [if_pos h1]
   have:=ih (s.1++[b],s.2.1,s.2.2) h
   exact ⟨this.1,by have:=this.2;simp only [List.length_cons] at *;omega⟩
  ·simp only [if_neg h1]
   by_cases h2:s.1≠[]
   ·simp only [if_pos h2]
    have:=ih ([],s.2.1,s.2.2++[s.1]) h
    exact ⟨this.1,by have:=this.2;simp only [List.length_cons] at *;omega⟩
   ·simp only [if_neg h2]
    by_cases h3:isBlockV s.2.2=true
    ·simp only [if_pos h3]
     have:=ih (s.1,s.2.1++[s.2.2],[]) (fun l hl=>by
      rcases List.mem_append.1 hl with hl | hl
      ·exact h l hl
      ·rw [List.mem_singleton] at hl;rw [hl];exact h3)
     exact ⟨this.1,by have:=this.2;simp only [List.length_cons,List.length_append,List.length_nil] at *;omega⟩
    ·simp only [if_neg h3]
     exact ⟨fun l hl=>(by cases hl),Nat.zero_le _⟩
theorem blocksV_out (f:List UInt8):(∀ l∈(blocksV f).2,isBlockV l=true)∧(blocksV f).2.length≤f.length:=by
 have:=blkG_out f ([],[],[]) (by simp)
 refine ⟨this.1,?_⟩
 have h2:=this.2
 simp only [List.length_nil,Nat.zero_add] at h2
 exact h2
abbrev wideL (l:List (List UInt8)):Nat:=(l.getD 0 []).length
def hurtS (l:List (List UInt8)):Bool:=decide (0<(badRows (wideL l) l).length+(badCols (wideL l) l).length)
def checkFV (f:List UInt8):Int×Int×Int:=if (blocksV f).1=true then (((blocksV f).2.length:Int),(((blocksV f).2.filter hurtS).length:Int),0) else (0,0,140)
abbrev fcCheckF:FC:=⟨.str,.prod (.int .i64) (.prod (.int .i64) (.int .i64)),fun x=>List.length x<65536,fun x=>checkFV x⟩
theorem filt_len (n:Nat) (p:Int→Bool):((idxI n).filter p).length≤n:=by
 have:=List.length_filter_le p (idxI n)
 rw [idxI_len] at this
 exact this
theorem foldl_count {α:Type} (p:α→Bool):∀ (l:List α) (n:Nat),l.foldl (fun n x=>if p x=true then n+1 else n) n=n+(l.filter p).length
 | [],n=>rfl
 | x::l,n=>by
  rw [List.foldl_cons,foldl_count p l]
  cases h:p x with
  | true=>simp [List.filter_cons,h];omega
  | false=>simp [List.filter_cons,h]
end Go.Fer
namespace Go.Fer
open M (Step)
set_option linter.unusedVariables false
set_option linter.unusedSimpArgs false
def takeT (r:List UInt8):Option (List UInt8):=if ((r.getD 0 0).toNat:Int) - 32 > (r.length:Int) - 2 then none else some ((r.take (1+(((r.getD 0 0).toNat:Int) - 32)).toNat).drop 1)
def innerT:List (List UInt8)→List (List UInt8)→Option (List (List UInt8))
 | [],o=>some o
 | r::l,o=>match takeT r with
  | none=>none
  | some t=>innerT l (o++[t])
def outerT:List (List (List UInt8))→List UInt8×List (List UInt8)→Option (List UInt8×List (List UInt8))
 | [],s=>some s
 | l::x,s=>match innerT (l.take (l.length - 1)) s.2 with
  | none=>none
  | some o=>outerT x (s.1++textS l,o)
theorem shaped_text {W:Nat} {l:List (List UInt8)} (h:shaped W l):(textS l).length≤600:=by
 rw [←numsOf_len,textS_nums]
 obtain ⟨h1,h2,h3,h4,h5⟩:=h
 have k:=linesI_le (m:=62) (l.map numsOf) fun r hr=>by
  obtain ⟨t,ht,rfl⟩:=List.mem_map.1 hr
  rw [numsOf_len]
  have:=(h5 t ht).1
  omega
 rw [List.length_map] at k
 have k2:l.length*(62+1)≤9*63:=Nat.mul_le_mul h2 (Nat.le_refl _)
 unfold textI
 simp only [List.length_append,List.length_singleton]
 omega
def textsV (x:List (List (List UInt8))):List (List UInt8)×Bool:=
 match outerT x ([],[]) with
 | none=>([],false)
 | some s=>(s.2,decide ((writeS s.2).2=0)&&decide ((writeS s.2).1=s.1))
end Go.Fer
namespace Go.Fer
open M (Step)
set_option linter.unusedVariables false
def S_law14_FilesCopies (c_law14_isTexts:List Str→M Bool) (c_law14_works:Unit→M Bool) (c_files_Write:List Str→M (List UInt8×Int)) (c_law14_Changed:List UInt8×List (Int×Int)→M (List UInt8×List Int×Bool)) (c_law14_often:List Int→M Int) (c_law14_sameTexts:List Str×List Str→M Bool) (c_files_Join:List UInt8×List UInt8→M (List Str×Int)) (x:List Str×List (Int×Int)×List (Int×Int)×Bool):M Bool:=
 M.bind (c_law14_isTexts x.1) fun y=>if (!y||decide (Int.ofNat (List.length x.2.1) > 10)||decide (Int.ofNat (List.length x.2.2.1) > 10))=true
 then M.bind (c_law14_works ()) fun y=>M.pure y else M.bind (c_files_Write x.1) fun y=>if (decide (y.2≠0)||decide (Int.ofNat (List.length y.1)
 > 8000))=true then M.pure false else M.bind (c_law14_Changed (y.1,x.2.1)) fun y_1=>M.bind (c_law14_Changed (y.1,x.2.2.1)) fun y=>M.bind (gdo
 (!(!y_1.2.2||!y.2.2)) (c_law14_often y_1.2.1) 0) fun y_2=>M.bind (gdo (!(!y_1.2.2||!y.2.2||decide (y_2 > 1))) (c_law14_often y.2.1) 0) fun y_3
 =>if (!y_1.2.2||!y.2.2||decide (y_2 > 1)||decide (y_3 > 2))=true then M.bind (c_law14_works ()) fun y=>M.pure y else M.bind (if x.2.2.2=
 true then M.pure (Step.next (x.1,y.1,y_1.1,())) else M.pure (Step.next (x.1,y_1.1,y.1,()))) (Step.go fun (σ:List Str×List UInt8×List
 UInt8×Unit)=>M.bind (c_files_Join (σ.2.1,σ.2.2.1)) fun y=>M.bind (gdo (decide (y.2=0)) (c_law14_sameTexts (y.1,σ.1)) false) fun y_4=>
 M.bind (gdo (decide (y.2=0)&&y_4) (c_law14_works ()) false) fun y_5=>M.pure (decide (y.2=0)&&y_4&&y_5))
def S_law14_isTexts (c_law14_Far:List Str→M Bool) (x:List Str):M Bool:=
 M.bind (M.loop (fun (σ:List Str×Int×Unit)=>if decide (σ.2.1<Int.ofNat (List.length σ.1))=true then M.bind (M.req (0≤σ.2.1∧σ.2.1 <
 Int.ofNat (List.length σ.1)) (if decide (Int.ofNat (List.length (List.getD σ.1 (Int.toNat σ.2.1) [])) > 60)=true then M.bind (M.bind (M.bind
 (M.pure false) fun r=>M.pure (Step.done r)) fun r=>M.pure (Step.done r)) fun r=>M.pure (Step.done r) else M.loop (fun (σ:List Str×Int×Int
 ×Unit)=>M.req (0≤σ.2.1∧σ.2.1<Int.ofNat (List.length σ.1)) (if decide (σ.2.2.1<Int.ofNat (List.length (List.getD σ.1 (Int.toNat σ.2.1)
 [])))=true then M.req (0≤σ.2.1∧σ.2.1<Int.ofNat (List.length σ.1)) (M.req (0≤σ.2.2.1∧σ.2.2.1<Int.ofNat (List.length (List.getD σ.1
 (Int.toNat σ.2.1) []))) (M.req ((!decide (Int.ofNat (List.getD (List.getD σ.1 (Int.toNat σ.2.1) []) (Int.toNat σ.2.2.1) 0).1.1.1<32))=true→
 ((!decide (Int.ofNat (List.getD (List.getD σ.1 (Int.toNat σ.2.1) []) (Int.toNat σ.2.2.1) 0).1.1.1<32))=true∧(!decide (Int.ofNat (List.getD
 (List.getD σ.1 (Int.toNat σ.2.1) []) (Int.toNat σ.2.2.1) 0).1.1.1<32))=true)∧(0≤σ.2.1∧σ.2.1<Int.ofNat (List.length σ.1))∧True) (M.req
 ((!decide (Int.ofNat (List.getD (List.getD σ.1 (Int.toNat σ.2.1) []) (Int.toNat σ.2.2.1) 0).1.1.1<32))=true→((!decide (Int.ofNat (List.getD
 (List.getD σ.1 (Int.toNat σ.2.1) []) (Int.toNat σ.2.2.1) 0).1.1.1<32))=true∧(!decide (Int.ofNat (List.getD (List.getD σ.1 (Int.toNat σ.2.1) [])
 (Int.toNat σ.2.2.1) 0).1.1.1<32))=true)∧(0≤σ.2.2.1∧σ.2.2.1<Int.ofNat (List.length (List.getD σ.1 (Int.toNat σ.2.1) [])))∧True) (if
 (decide (Int.ofNat (List.getD (List.getD σ.1 (Int.toNat σ.2.1) []) (Int.toNat σ.2.2.1) 0).1.1.1<32)||decide (Int.ofNat (List.getD (List.getD σ.1
 (Int.toNat σ.2.1) []) (Int.toNat σ.2.2.1) 0).1.1.1 > 126))=true then M.bind (M.bind (M.bind (M.bind (M.pure false) fun r=>M.pure (Step.done r))
 fun r=>M.pure (Step.done r)) fun r=>M.pure (Step.done r)) fun r=>M.pure (Step.done r) else M.pure (Step.next (σ.1,σ.2.1,IntKind.wrap .i64
 (Add.add σ.2.2.1 1),())))))) else M.bind (M.pure (Step.next (σ.1,σ.2.1,()))) fun r=>M.pure (Step.done r))) (σ.1,σ.2.1,0,()))) (Step.go fun (σ
 : List Str×Int×Unit)=>M.pure (Step.next (σ.1,IntKind.wrap .i64 (Add.add σ.2.1 1),()))) else M.bind (M.pure (Step.next (σ.1,()))) fun r=>
 M.pure (Step.done r)) (x,0,())) (Step.go fun (σ:List Str×Unit)=>M.bind (c_law14_Far σ.1) fun y=>M.pure (!y&&decide (Int.ofNat
 (List.length σ.1)≤40)))
def S_law14_works (c_files_Write:List Str→M (List UInt8×Int)) (c_files_Read:List UInt8→M (List Str×List Int×Int)) (c_files_Damage:List UInt8→M (List Int×Int)) (c_files_Check:List UInt8→M (Int×Int×Int)) (c_law14_sameTexts:List Str×List Str→M Bool) (c_law14_sameInts:List Int×List Int→M Bool) (x:Unit):M Bool:=
 M.bind (c_files_Write [[97,98],[99]]) fun y=>M.bind (c_files_Read [34,97,120,70,10,33,99,32,100,10,35,69,98,43,10,10]) fun y_1=>
 M.bind (c_files_Damage [34,97,120,70,10,33,99,32,100,10,35,69,98,43,10,10]) fun y_2=>M.bind (c_files_Check [34,97,120,70,10,33,
 120,32,100,10,35,69,98,43,10,10]) fun y_3=>M.bind (gdo (decide (y.2=0)&&decide (y_1.2.2=0)&&decide (y_2.2=0)&&decide (y_3.2.2
 =0)&&decide (y.1=[34,97,98,70,10,33,99,32,100,10,35,69,98,43,10,10])) (c_law14_sameTexts (y_1.1,[[97,98],[99]])) false) fun y_4
 =>M.bind (gdo (decide (y.2=0)&&decide (y_1.2.2=0)&&decide (y_2.2=0)&&decide (y_3.2.2=0)&&decide (y.1=[34,97,98,70,10,33,99,
 32,100,10,35,69,98,43,10,10])&&y_4) (c_law14_sameInts (y_1.2.1,[0])) false) fun y_5=>M.bind (gdo (decide (y.2=0)&&decide (y_1.2.2=
 0)&&decide (y_2.2=0)&&decide (y_3.2.2=0)&&decide (y.1=[34,97,98,70,10,33,99,32,100,10,35,69,98,43,10,10])&&y_4&&y_5)
 (c_law14_sameInts (y_2.1,[2])) false) fun y_6=>M.pure (decide (y.2=0)&&decide (y_1.2.2=0)&&decide (y_2.2=0)&&decide (y_3.2.2=0)&&
 decide (y.1=[34,97,98,70,10,33,99,32,100,10,35,69,98,43,10,10])&&y_4&&y_5&&y_6&&decide (y_3.1=1)&&decide (y_3.2.1=1))
def S_law14_Changed (c_law14_number:List UInt8×Int→M (Int×Bool)) (x:List UInt8×List (Int×Int)):M (List UInt8×List Int×Bool):=
 M.bind (M.loop (fun (σ:List UInt8×List (Int×Int)×List UInt8×Int×List Int×Unit)=>if decide (σ.2.2.2.1<Int.ofNat (List.length σ.2.1))
 =true then M.bind (M.req (0≤σ.2.2.2.1∧σ.2.2.2.1<Int.ofNat (List.length σ.2.1)) (M.bind (c_law14_number (σ.1,(List.getD σ.2.1 (Int.toNat
 σ.2.2.2.1) (0,0)).1)) fun y=>M.req ((!!y.2)=true→((!!y.2)=true∧(!!y.2)=true)∧(0≤σ.2.2.2.1∧σ.2.2.2.1<Int.ofNat (List.length
 σ.2.1))∧True) (M.req ((!!y.2)=true→(!!y.2)=true∧True∧True) (M.req ((!!y.2)=true→(!!y.2)=true∧True∧True) (M.req ((!!y.2)=true
 →((!!y.2)=true∧True)∧True∧True) (M.req (True∧((!y.2)=false→(!!y.2)=true)) (M.req ((!(!y.2||decide ((List.getD σ.2.1 (Int.toNat
 σ.2.2.2.1) (0,0)).2<32)))=true→((!(!y.2||decide ((List.getD σ.2.1 (Int.toNat σ.2.2.2.1) (0,0)).2<32)))=true∧(!(!y.2||decide
 ((List.getD σ.2.1 (Int.toNat σ.2.2.2.1) (0,0)).2<32)))=true)∧(0≤σ.2.2.2.1∧σ.2.2.2.1<Int.ofNat (List.length σ.2.1))∧True) (M.req
 ((!(!y.2||decide ((List.getD σ.2.1 (Int.toNat σ.2.2.2.1) (0,0)).2<32)))=true→(!(!y.2||decide ((List.getD σ.2.1 (Int.toNat σ.2.2.2.1) (0,
 0)).2<32)))=true∧True∧True) (M.req ((!(!y.2||decide ((List.getD σ.2.1 (Int.toNat σ.2.2.2.1) (0,0)).2<32)))=true→(!(!y.2||decide
 ((List.getD σ.2.1 (Int.toNat σ.2.2.2.1) (0,0)).2<32)))=true∧True∧True) (M.req ((!(!y.2||decide ((List.getD σ.2.1 (Int.toNat σ.2.2.2.1) (0,
 0)).2<32)))=true→((!(!y.2||decide ((List.getD σ.2.1 (Int.toNat σ.2.2.2.1) (0,0)).2<32)))=true∧True)∧True∧True) (M.req (True∧
 ((!y.2||decide ((List.getD σ.2.1 (Int.toNat σ.2.2.2.1) (0,0)).2<32))=false→(!(!y.2||decide ((List.getD σ.2.1 (Int.toNat σ.2.2.2.1) (0,
 0)).2<32)))=true)) (M.req ((!(!y.2||decide ((List.getD σ.2.1 (Int.toNat σ.2.2.2.1) (0,0)).2<32)||decide ((List.getD σ.2.1 (Int.toNat
 σ.2.2.2.1) (0,0)).2 > 126)))=true→((!(!y.2||decide ((List.getD σ.2.1 (Int.toNat σ.2.2.2.1) (0,0)).2<32)||decide ((List.getD σ.2.1
 (Int.toNat σ.2.2.2.1) (0,0)).2 > 126)))=true∧(!(!y.2||decide ((List.getD σ.2.1 (Int.toNat σ.2.2.2.1) (0,0)).2<32)||decide ((List.getD
 σ.2.1 (Int.toNat σ.2.2.2.1) (0,0)).2 > 126)))=true)∧(0≤σ.2.2.2.1∧σ.2.2.2.1<Int.ofNat (List.length σ.2.1))∧True) (M.req ((!(!y.2||
 decide ((List.getD σ.2.1 (Int.toNat σ.2.2.2.1) (0,0)).2<32)||decide ((List.getD σ.2.1 (Int.toNat σ.2.2.2.1) (0,0)).2 > 126)))=true→(!(!y.2
 ||decide ((List.getD σ.2.1 (Int.toNat σ.2.2.2.1) (0,0)).2<32)||decide ((List.getD σ.2.1 (Int.toNat σ.2.2.2.1) (0,0)).2 > 126)))=true∧True
 ∧True) (M.req ((!(!y.2||decide ((List.getD σ.2.1 (Int.toNat σ.2.2.2.1) (0,0)).2<32)||decide ((List.getD σ.2.1 (Int.toNat σ.2.2.2.1) (0,0)).2
 > 126)))=true→(!(!y.2||decide ((List.getD σ.2.1 (Int.toNat σ.2.2.2.1) (0,0)).2<32)||decide ((List.getD σ.2.1 (Int.toNat σ.2.2.2.1) (0,
 0)).2 > 126)))=true∧True∧True) (M.req ((!(!y.2||decide ((List.getD σ.2.1 (Int.toNat σ.2.2.2.1) (0,0)).2<32)||decide ((List.getD σ.2.1
 (Int.toNat σ.2.2.2.1) (0,0)).2 > 126)))=true→((!(!y.2||decide ((List.getD σ.2.1 (Int.toNat σ.2.2.2.1) (0,0)).2<32)||decide ((List.getD
 σ.2.1 (Int.toNat σ.2.2.2.1) (0,0)).2 > 126)))=true∧(!(!y.2||decide ((List.getD σ.2.1 (Int.toNat σ.2.2.2.1) (0,0)).2<32)||decide
 ((List.getD σ.2.1 (Int.toNat σ.2.2.2.1) (0,0)).2 > 126)))=true)∧(0≤(List.getD σ.2.1 (Int.toNat σ.2.2.2.1) (0,0)).1∧(List.getD σ.2.1
 (Int.toNat σ.2.2.2.1) (0,0)).1<Int.ofNat (List.length σ.1))∧True) (M.req ((!(!y.2||decide ((List.getD σ.2.1 (Int.toNat σ.2.2.2.1) (0,0)).2 <
 32)||decide ((List.getD σ.2.1 (Int.toNat σ.2.2.2.1) (0,0)).2 > 126)))=true→(!(!y.2||decide ((List.getD σ.2.1 (Int.toNat σ.2.2.2.1) (0,0)).2
 < 32)||decide ((List.getD σ.2.1 (Int.toNat σ.2.2.2.1) (0,0)).2 > 126)))=true∧True∧True) (M.req ((!(!y.2||decide ((List.getD σ.2.1
 (Int.toNat σ.2.2.2.1) (0,0)).2<32)||decide ((List.getD σ.2.1 (Int.toNat σ.2.2.2.1) (0,0)).2 > 126)))=true→((!(!y.2||decide ((List.getD
 σ.2.1 (Int.toNat σ.2.2.2.1) (0,0)).2<32)||decide ((List.getD σ.2.1 (Int.toNat σ.2.2.2.1) (0,0)).2 > 126)))=true∧(!(!y.2||decide
 ((List.getD σ.2.1 (Int.toNat σ.2.2.2.1) (0,0)).2<32)||decide ((List.getD σ.2.1 (Int.toNat σ.2.2.2.1) (0,0)).2 > 126)))=true)∧(0≤σ.2.2.2.1
 ∧σ.2.2.2.1<Int.ofNat (List.length σ.2.1))∧True) (M.req ((!(!y.2||decide ((List.getD σ.2.1 (Int.toNat σ.2.2.2.1) (0,0)).2<32)||decide
 ((List.getD σ.2.1 (Int.toNat σ.2.2.2.1) (0,0)).2 > 126)))=true→(!(!y.2||decide ((List.getD σ.2.1 (Int.toNat σ.2.2.2.1) (0,0)).2<32)||
 decide ((List.getD σ.2.1 (Int.toNat σ.2.2.2.1) (0,0)).2 > 126)))=true∧True∧True) (M.req ((!(!y.2||decide ((List.getD σ.2.1 (Int.toNat
 σ.2.2.2.1) (0,0)).2<32)||decide ((List.getD σ.2.1 (Int.toNat σ.2.2.2.1) (0,0)).2 > 126)))=true→(!(!y.2||decide ((List.getD σ.2.1
 (Int.toNat σ.2.2.2.1) (0,0)).2<32)||decide ((List.getD σ.2.1 (Int.toNat σ.2.2.2.1) (0,0)).2 > 126)))=true∧True∧True) (M.req ((!(!y.2||
 decide ((List.getD σ.2.1 (Int.toNat σ.2.2.2.1) (0,0)).2<32)||decide ((List.getD σ.2.1 (Int.toNat σ.2.2.2.1) (0,0)).2 > 126)))=true→((!(!y.2
 ||decide ((List.getD σ.2.1 (Int.toNat σ.2.2.2.1) (0,0)).2<32)||decide ((List.getD σ.2.1 (Int.toNat σ.2.2.2.1) (0,0)).2 > 126)))=true∧
 (!(!y.2||decide ((List.getD σ.2.1 (Int.toNat σ.2.2.2.1) (0,0)).2<32)||decide ((List.getD σ.2.1 (Int.toNat σ.2.2.2.1) (0,0)).2 > 126)))=
 true)∧True∧True) (M.req (True∧((!y.2||decide ((List.getD σ.2.1 (Int.toNat σ.2.2.2.1) (0,0)).2<32)||decide ((List.getD σ.2.1 (Int.toNat
 σ.2.2.2.1) (0,0)).2 > 126))=false→(!(!y.2||decide ((List.getD σ.2.1 (Int.toNat σ.2.2.2.1) (0,0)).2<32)||decide ((List.getD σ.2.1
 (Int.toNat σ.2.2.2.1) (0,0)).2 > 126)))=true)) (if (!y.2||decide ((List.getD σ.2.1 (Int.toNat σ.2.2.2.1) (0,0)).2<32)||decide ((List.getD
 σ.2.1 (Int.toNat σ.2.2.2.1) (0,0)).2 > 126)||decide (IntKind.wrap .i64 (Int.ofNat (List.getD σ.1 (Int.toNat (List.getD σ.2.1 (Int.toNat σ.2.2.2.1)
 (0,0)).1) 0).1.1.1)=(List.getD σ.2.1 (Int.toNat σ.2.2.2.1) (0,0)).2))=true then M.bind (M.bind (M.bind (M.pure ([],[],false)) fun r=>M.pure
 (Step.done r)) fun r=>M.pure (Step.done r)) fun r=>M.pure (Step.done r) else M.bind (M.loop (fun (σ:List UInt8×List (Int×Int)×List UInt8
 ×Int×Int×Int×List Int×Unit)=>if decide (σ.q5<σ.2.2.2.1)=true then M.req (0≤σ.q5∧σ.q5<Int.ofNat (List.length σ.2.1)) (M.req (0≤
 σ.2.2.2.1∧σ.2.2.2.1<Int.ofNat (List.length σ.2.1)) (if decide ((List.getD σ.2.1 (Int.toNat σ.q5) (0,0)).1=(List.getD σ.2.1 (Int.toNat
 σ.2.2.2.1) (0,0)).1)=true then M.bind (M.bind (M.bind (M.bind (M.bind (M.pure ([],[],false)) fun r=>M.pure (Step.done r)) fun r=>M.pure
 (Step.done r)) fun r=>M.pure (Step.done r)) fun r=>M.pure (Step.done r)) fun r=>M.pure (Step.done r) else M.pure (Step.next (σ.1,σ.2.1,
 σ.2.2.1,σ.2.2.2.1,σ.2.2.2.2.1,IntKind.wrap .i64 (Add.add σ.q5 1),σ.q6,())))) else M.bind (M.pure (Step.next (σ.1,σ.2.1,σ.2.2.1,σ.2.2.2.1,
 σ.2.2.2.2.1,σ.q6,()))) fun r=>M.pure (Step.done r)) (σ.1,σ.2.1,σ.2.2.1,σ.2.2.2.1,y.1,0,σ.2.2.2.2.1,())) (Step.go fun (σ:List UInt8×
 List (Int×Int)×List UInt8×Int×Int×List Int×Unit)=>M.req (0≤σ.2.2.2.1∧σ.2.2.2.1<Int.ofNat (List.length σ.2.1)) (M.req ((0:Int)≤
 0∧0≤(List.getD σ.2.1 (Int.toNat σ.2.2.2.1) (0,0)).1∧(List.getD σ.2.1 (Int.toNat σ.2.2.2.1) (0,0)).1≤Int.ofNat (List.length σ.2.2.1)) (M.req
 (0≤σ.2.2.2.1∧σ.2.2.2.1<Int.ofNat (List.length σ.2.1)) (M.req (lenLe (Add.add (List.length (List.take (Int.toNat (List.getD σ.2.1 (Int.toNat
 σ.2.2.2.1) (0,0)).1) σ.2.2.1)) (Add.add 0 1))) (M.req (0≤σ.2.2.2.1∧σ.2.2.2.1<Int.ofNat (List.length σ.2.1)) (M.req (0≤IntKind.wrap .i64
 (Add.add (List.getD σ.2.1 (Int.toNat σ.2.2.2.1) (0,0)).1 1)∧IntKind.wrap .i64 (Add.add (List.getD σ.2.1 (Int.toNat σ.2.2.2.1) (0,0)).1 1)≤
 Int.ofNat (List.length σ.2.2.1)∧Int.ofNat (List.length σ.2.2.1)≤Int.ofNat (List.length σ.2.2.1)) (M.req (lenLe (Add.add (List.length (List.take
 (Int.toNat (List.getD σ.2.1 (Int.toNat σ.2.2.2.1) (0,0)).1) σ.2.2.1++bytesOf [IntKind.wrap .u8 (List.getD σ.2.1 (Int.toNat σ.2.2.2.1) (0,0)).2]))
 (List.length (List.drop (Int.toNat (IntKind.wrap .i64 (Add.add (List.getD σ.2.1 (Int.toNat σ.2.2.2.1) (0,0)).1 1))) (List.take (Int.toNat (Int.ofNat
 (List.length σ.2.2.1))) σ.2.2.1))))) (M.req (lenLe (Add.add (List.length σ.q5) (Add.add 0 1))) (M.pure (Step.next (σ.1,σ.2.1,List.take (Int.toNat
 (List.getD σ.2.1 (Int.toNat σ.2.2.2.1) (0,0)).1) σ.2.2.1++bytesOf [IntKind.wrap .u8 (List.getD σ.2.1 (Int.toNat σ.2.2.2.1) (0,0)).2]++List.drop
 (Int.toNat (IntKind.wrap .i64 (Add.add (List.getD σ.2.1 (Int.toNat σ.2.2.2.1) (0,0)).1 1))) (List.take (Int.toNat (Int.ofNat (List.length σ.2.2.1)))
 σ.2.2.1),σ.2.2.2.1,σ.q5++[σ.2.2.2.2.1],()))))))))))))))))))))))))))))))))) (Step.go fun (σ:List UInt8×List (Int×Int)×List UInt8×Int×
 List Int×Unit)=>M.pure (Step.next (σ.1,σ.2.1,σ.2.2.1,IntKind.wrap .i64 (Add.add σ.2.2.2.1 1),σ.2.2.2.2.1,()))) else M.bind (M.pure
 (Step.next (σ.2.2.1,σ.2.2.2.2.1,()))) fun r=>M.pure (Step.done r)) (x.1,x.2,x.1,0,[],())) (Step.go fun (σ:List UInt8×List Int×Unit)=>
 M.pure (σ.1,σ.2.1,true))
def S_law14_often (x:List Int):M Int:=
 M.bind (M.loop (fun (σ:List Int×Int×Int×Unit)=>if decide (σ.2.2.1<Int.ofNat (List.length σ.1))=true then M.bind (M.bind (M.loop (fun (σ
 : List Int×Int×Int×Int×Int×Unit)=>if decide (σ.2.2.2.2.1<Int.ofNat (List.length σ.1))=true then M.bind (M.req (0≤σ.2.2.2.2.1∧
 σ.2.2.2.2.1<Int.ofNat (List.length σ.1)) (M.req (0≤σ.2.2.1∧σ.2.2.1<Int.ofNat (List.length σ.1)) (if decide (List.getD σ.1 (Int.toNat
 σ.2.2.2.2.1) 0=List.getD σ.1 (Int.toNat σ.2.2.1) 0)=true then M.pure (Step.next (σ.1,σ.2.1,σ.2.2.1,IntKind.wrap .i64 (Add.add σ.2.2.2.1 1),
 σ.2.2.2.2.1,())) else M.pure (Step.next (σ.1,σ.2.1,σ.2.2.1,σ.2.2.2.1,σ.2.2.2.2.1,()))))) (Step.go fun (σ:List Int×Int×Int×Int×Int×
 Unit)=>M.pure (Step.next (σ.1,σ.2.1,σ.2.2.1,σ.2.2.2.1,IntKind.wrap .i64 (Add.add σ.2.2.2.2.1 1),()))) else M.bind (M.pure (Step.next (σ.1,
 σ.2.1,σ.2.2.1,σ.2.2.2.1,()))) fun r=>M.pure (Step.done r)) (σ.1,σ.2.1,σ.2.2.1,0,0,())) (Step.go fun (σ:List Int×Int×Int×Int×Unit)
 =>M.pure (Step.next (σ.1,if σ.2.2.2.1 > σ.2.1 then σ.2.2.2.1 else σ.2.1,σ.2.2.1,())))) (Step.go fun (σ:List Int×Int×Int×Unit)=>M.pure
 (Step.next (σ.1,σ.2.1,IntKind.wrap .i64 (Add.add σ.2.2.1 1),()))) else M.bind (M.pure (Step.next (σ.2.1,()))) fun r=>M.pure (Step.done r)) (x,
 0,0,())) (Step.go fun (σ:Int×Unit)=>M.pure σ.1)
def S_law14_sameTexts (x:List Str×List Str):M Bool:=
 if decide (Int.ofNat (List.length x.1)≠Int.ofNat (List.length x.2))=true then M.pure false else M.bind (M.loop (fun (σ:List Str×List Str×
 Int×Unit)=>if decide (σ.2.2.1<Int.ofNat (List.length σ.1))=true then M.req (0≤σ.2.2.1∧σ.2.2.1<Int.ofNat (List.length σ.1)) (M.req (0≤
 σ.2.2.1∧σ.2.2.1<Int.ofNat (List.length σ.2.1)) (if decide (List.getD σ.1 (Int.toNat σ.2.2.1) []≠List.getD σ.2.1 (Int.toNat σ.2.2.1) [])=true
 then M.bind (M.bind (M.pure false) fun r=>M.pure (Step.done r)) fun r=>M.pure (Step.done r) else M.pure (Step.next (σ.1,σ.2.1,IntKind.wrap .i64
 (Add.add σ.2.2.1 1),())))) else M.bind (M.pure (Step.next ())) fun r=>M.pure (Step.done r)) (x.1,x.2,0,())) (Step.go fun (σ:Unit)=>M.pure
 true)
def S_law14_Far (x:List Str):M Bool:=
 M.bind (M.loop (fun (σ:List Str×Int×Int×Unit)=>if decide (σ.2.2.1<Int.ofNat (List.length σ.1))=true then M.req (0≤σ.2.2.1∧σ.2.2.1 <
 Int.ofNat (List.length σ.1)) (M.pure (Step.next (σ.1,IntKind.wrap .i64 (Add.add σ.2.1 (Int.ofNat (List.length (List.getD σ.1 (Int.toNat σ.2.2.1)
 [])))),IntKind.wrap .i64 (Add.add σ.2.2.1 1),()))) else M.bind (M.pure (Step.next (σ.1,σ.2.1,()))) fun r=>M.pure (Step.done r)) (x,0,0,()))
 (Step.go fun (σ:List Str×Int×Unit)=>M.pure (decide (Int.ofNat (List.length σ.1) > 60)||decide (σ.2.1 > 4000)))
def S_law14_sameInts (x:List Int×List Int):M Bool:=
 if decide (Int.ofNat (List.length x.1)≠Int.ofNat (List.length x.2))=true then M.pure false else M.bind (M.loop (fun (σ:List Int×List Int×
 Int×Unit)=>if decide (σ.2.2.1<Int.ofNat (List.length σ.1))=true then M.req (0≤σ.2.2.1∧σ.2.2.1<Int.ofNat (List.length σ.1)) (M.req (0≤
 σ.2.2.1∧σ.2.2.1<Int.ofNat (List.length σ.2.1)) (if decide (List.getD σ.1 (Int.toNat σ.2.2.1) 0≠List.getD σ.2.1 (Int.toNat σ.2.2.1) 0)=true
 then M.bind (M.bind (M.pure false) fun r=>M.pure (Step.done r)) fun r=>M.pure (Step.done r) else M.pure (Step.next (σ.1,σ.2.1,IntKind.wrap .i64
 (Add.add σ.2.2.1 1),())))) else M.bind (M.pure (Step.next ())) fun r=>M.pure (Step.done r)) (x.1,x.2,0,())) (Step.go fun (σ:Unit)=>M.pure
 true)
def S_law14_number (x:List UInt8×Int):M (Int×Bool):=
 M.req ((!(decide (x.2<0)||decide (x.2≥Int.ofNat (List.length x.1))))=true→((!(decide (x.2<0)||decide (x.2≥Int.ofNat (List.length
 x.1))))=true∧(!(decide (x.2<0)||decide (x.2≥Int.ofNat (List.length x.1))))=true)∧(0≤x.2∧x.2<Int.ofNat (List.length x.1))∧True)
 (if (decide (x.2<0)||decide (x.2≥Int.ofNat (List.length x.1))||decide (Int.ofNat (List.getD x.1 (Int.toNat x.2) 0).1.1.1=10))=true then
 M.pure (0,false) else M.bind (M.loop (fun (σ:List UInt8×Int×Int×Int×Unit)=>if decide (σ.2.2.2.1<σ.2.1)=true then M.bind (M.req (0≤
 σ.2.2.2.1∧σ.2.2.2.1<Int.ofNat (List.length σ.1)) (M.req (decide (Int.ofNat (List.getD σ.1 (Int.toNat σ.2.2.2.1) 0).1.1.1=10)=true→(decide
 (Int.ofNat (List.getD σ.1 (Int.toNat σ.2.2.2.1) 0).1.1.1=10)=true∧decide (Int.ofNat (List.getD σ.1 (Int.toNat σ.2.2.2.1) 0).1.1.1=10)=true)
 ∧(0≤IntKind.wrap .i64 (σ.2.2.2.1 - 1)∧IntKind.wrap .i64 (σ.2.2.2.1 - 1)<Int.ofNat (List.length σ.1))∧True) (if (decide (Int.ofNat (List.getD
 σ.1 (Int.toNat σ.2.2.2.1) 0).1.1.1=10)&&decide (Int.ofNat (List.getD σ.1 (Int.toNat (IntKind.wrap .i64 (σ.2.2.2.1 - 1))) 0).1.1.1=10))=true
 then M.pure (Step.next (σ.1,σ.2.1,IntKind.wrap .i64 (Add.add σ.2.2.1 1),σ.2.2.2.1,())) else M.pure (Step.next (σ.1,σ.2.1,σ.2.2.1,σ.2.2.2.1,
 ()))))) (Step.go fun (σ:List UInt8×Int×Int×Int×Unit)=>M.pure (Step.next (σ.1,σ.2.1,σ.2.2.1,IntKind.wrap .i64 (Add.add σ.2.2.2.1 1),
 ()))) else M.bind (M.pure (Step.next (σ.2.2.1,()))) fun r=>M.pure (Step.done r)) (x.1,x.2,0,1,())) (Step.go fun (σ:Int×Unit)=>M.pure
 (σ.1,true)))
end Go.Fer
namespace Go.Fer
open M (Step)
set_option linter.unusedVariables false
set_option linter.unusedSimpArgs false
theorem all_eq {α:Type} [DecidableEq α] (a b:List α) (d:α) (h:a.length=b.length):((List.range a.length).all fun i=>decide (a.getD i d=b.getD i d))=decide (a=b):=by
 rw [Bool.eq_iff_iff,List.all_eq_true,decide_eq_true_eq]
 constructor
 ·intro hh
  refine List.ext_getElem h fun i h1 h2=>?_
  have:=hh i (by simpa using h1)
  simp only [List.getD_eq_getElem?_getD,List.getElem?_eq_getElem h1,List.getElem?_eq_getElem h2,Option.getD_some,decide_eq_true_eq] at this
  exact this
 ·rintro rfl i _
  simp
theorem loop_same {α σ ρ:Type} [DecidableEq α] {body:σ→M (Step σ (Step ρ Bool))} {s0:σ} (a b:List α) (d:α) (hl:a.length=b.length) (mk:Nat→σ) (fin:ρ) (hs0:s0=mk 0)
  (hs:∀ i,i<a.length→body (mk i)=M.pure (if (!decide (a.getD i d=b.getD i d))=true then .done (.done false) else .next (mk (i+1))))
  (hf:body (mk a.length)=M.pure (.done (.next fin))):M.loop body s0=M.pure (if a=b then .next fin else .done false):=by
 rw [M.loop_listT (List.range a.length) (fun i (_:Unit)=>mk i) (fun i u=>if (!decide (a.getD i d=b.getD i d))=true then .done (.done false) else .next u) (fun _=>.next fin) () hs0 ?_ ?_]
 ·rw [foldS_anyN (q:=fun i=>decide (a.getD i d=b.getD i d)) _ _ (fun _=>rfl),all_eq a b d hl]
  by_cases h:a=b<;>simp [h]
 ·intro i hi u
  have hi:i<a.length:=by simpa using hi
  rw [hs i hi,List.getElem_range]
  cases decide (a.getD i d=b.getD i d)<;>rfl
 ·intro u
  rw [List.length_range];exact hf
abbrev fcSameI:FC:=⟨.prod (.slice (.int .i64)) (.slice (.int .i64)),.bool,fun x=>List.length x.1<2 ^ 63∧List.length x.2<2 ^ 63,fun x=>decide (x.1=x.2)⟩
theorem sSameI14 (x):M.le (S_law14_sameInts x) (fcSameI.sh x):=M.le_det fun h=>by
 obtain ⟨a,b⟩:=x
 obtain ⟨h1,h2⟩:=h
 change a.length<2 ^ 63 at h1
 unfold S_law14_sameInts
 show _=M.pure (decide (a=b))
 simp only [ofNat_def]
 by_cases hl:a.length=b.length
 ·rw [if_neg (by simp only [decide_eq_true_eq];omega)]
  rw [loop_same a b 0 hl (fun i=>(a,b,(i:Int),())) () ?_ ?_ ?_]
  ·by_cases h:a=b<;>simp [h]
  ·rfl
  ·intro i hi
   have hi2:i<b.length:=by omega
   have hw:=wrap64 (n:=(i:Int)+1) (by omega) (by omega)
   simp only [lt_len hi,if_true,in_len hi,in_len hi2,M.req_True,add_def,hw,Int.toNat_natCast,M.bind_pure,ne_eq,decide_not]
   cases decide (a.getD i 0=b.getD i 0)<;>rfl
  ·simp
 ·rw [if_pos (by simp only [decide_eq_true_eq];omega)]
  rw [decide_eq_false fun e=>hl (by rw [e])]
abbrev fcSameT:FC:=⟨.prod (.slice .str) (.slice .str),.bool,fun x=>List.length x.1<2 ^ 63∧List.length x.2<2 ^ 63,fun x=>decide (x.1=x.2)⟩
theorem sSameT14 (x):M.le (S_law14_sameTexts x) (fcSameT.sh x):=M.le_det fun h=>by
 obtain ⟨a,b⟩:=x
 obtain ⟨h1,h2⟩:=h
 change a.length<2 ^ 63 at h1
 unfold S_law14_sameTexts
 show _=M.pure (decide (a=b))
 simp only [ofNat_def]
 by_cases hl:a.length=b.length
 ·rw [if_neg (by simp only [decide_eq_true_eq];omega)]
  rw [loop_same a b [] hl (fun i=>(a,b,(i:Int),())) () ?_ ?_ ?_]
  ·by_cases h:a=b<;>simp [h]
  ·rfl
  ·intro i hi
   have hi2:i<b.length:=by omega
   have hw:=wrap64 (n:=(i:Int)+1) (by omega) (by omega)
   simp only [lt_len hi,if_true,in_len hi,in_len hi2,M.req_True,add_def,hw,Int.toNat_natCast,M.bind_pure,ne_eq,decide_not]
   cases decide (a.getD i []=b.getD i [])<;>rfl
  ·simp
 ·rw [if_pos (by simp only [decide_eq_true_eq];omega)]
  rw [decide_eq_false fun e=>hl (by rw [e])]
def sumW (l:List (List UInt8)):Int:=l.foldl (fun n t=>IntKind.wrap .i64 (n+(t.length:Int))) 0
def farV (l:List (List UInt8)):Bool:=decide (l.length > 60)||decide (sumW l > 4000)
abbrev fcFar:FC:=⟨.slice .str,.bool,fun x=>List.length x<2 ^ 63,fun x=>farV x⟩
theorem sFar (x):M.le (S_law14_Far x) (fcFar.sh x):=M.le_det fun h=>by
 change List (List UInt8) at x
 change x.length<2 ^ 63 at h
 unfold S_law14_Far
 show _=M.pure (farV x)
 rw [M.loop_list x (fun i (n:Int)=>(x,n,(i:Int),())) (fun t n=>.next (IntKind.wrap .i64 (n+(t.length:Int)))) (fun n=>.next (x,n,())) (fun i n=>True) 0 ?_ ?_ ?_ ?_]
 ·rw [foldS_next,M.bind_pure,M.go_next]
  show M.pure (decide (Int.ofNat x.length > 60)||decide (sumW x > 4000))=_
  unfold farV
  rw [show decide (Int.ofNat x.length > 60)=decide (x.length > 60) from decide_eq_decide.2 (by rw [ofNat_def];omega)]
 ·rfl
 ·trivial
 ·intro i hi n hn
  have hw:=wrap64 (n:=(i:Int)+1) (by omega) (by omega)
  refine ⟨?_,fun n' hn'=>trivial⟩
  simp only [ofNat_def,lt_len hi,if_true,getD_nat hi,in_len hi,M.req_True,add_def,hw]
  rfl
 ·intro n hn
  simp
end Go.Fer
namespace Go.Fer
open M (Step)
set_option linter.unusedVariables false
set_option linter.unusedSimpArgs false
def isTextsV (x:List (List UInt8)):Bool:=(x.all fun t=>!badT t)&&(!farV x&&decide (x.length≤40))
abbrev fcIsTexts:FC:=⟨.slice .str,.bool,fun x=>List.length x<2 ^ 63,fun x=>isTextsV x⟩
theorem sIsTexts (x):M.le (S_law14_isTexts fcFar.sh x) (fcIsTexts.sh x):=M.le_det fun h=>by
 change List (List UInt8) at x
 have h1:x.length<2 ^ 63:=h
 unfold S_law14_isTexts
 show _=M.pure (isTextsV x)
 rw [M.loop_listT x (fun i (_:Unit)=>(x,(i:Int),())) (fun t u=>if badT t=true then .done (.done false) else .next u) (fun _=>.next (x,())) () ?_ ?_ ?_]
 ·rw [foldS_any,any_not (q:=fun t=>!badT t) (fun t=>by simp)]
  unfold isTextsV
  cases x.all fun t=>!badT t with
  | false=>simp
  | true=>
   simp only [Bool.not_true,Bool.false_eq_true,if_false,Bool.true_and]
   rw [M.bind_pure,M.go_next]
   dsimp only
   rw [show fcFar.sh x=M.pure (farV x) from M.det_true (show x.length<2 ^ 63 from h1) _,M.bind_pure,show decide (Int.ofNat x.length≤40)=decide (x.length≤40) from decide_eq_decide.2 (by rw [ofNat_def];omega)]
 ·rfl
 ·intro i hi u
  have hw:=wrap64 (n:=(i:Int)+1) (by omega) (by omega)
  have hin:(0≤(i:Int)∧(i:Int)<(x.length:Int)):=⟨by omega,by omega⟩
  have hzi:((i:Int)).toNat=i:=rfl
  have hgi:x.getD i []=x[i]:=by rw [List.getD_eq_getElem?_getD,List.getElem?_eq_getElem hi];rfl
  simp only [ofNat_def,lt_len hi,if_true,hzi,hgi]
  rw [M.req_true hin]
  have d1:decide ((x[i].length:Int) > 60)=decide (x[i].length > 60):=decide_eq_decide.2 (by omega)
  rw [d1]
  by_cases hl:x[i].length > 60
  ·have hb:badT x[i]=true:=by unfold badT;rw [decide_eq_true hl];rfl
   rw [hb,decide_eq_true hl,if_pos rfl,if_pos rfl]
   simp only [M.bind_pure,M.go_done]
   rfl
  ·have hb:badT x[i]=!x[i].all okB:=by unfold badT;rw [decide_eq_false hl];rfl
   rw [hb,decide_eq_false hl,if_neg (by decide)]
   rw [M.loop_listT x[i] (fun k (_:Unit)=>(x,(i:Int),(k:Int),())) (fun b u=>if (!okB b)=true then .done (.done (.done (.done false))) else .next u) (fun _=>.next (x,(i:Int),())) () ?_ ?_ ?_]
   ·rw [foldS_anyN (q:=okB) _ _ (fun _=>rfl)]
    cases x[i].all okB with
    | false=>simp only [Bool.false_eq_true,if_false,M.bind_pure,M.go_done];rfl
    | true=>simp only [if_true,M.bind_pure,M.go_next,add_def,hw];rfl
   ·rfl
   ·intro k hk u
    have hwk:=wrap64 (n:=(k:Int)+1) (by omega) (by omega)
    have hzk:((k:Int)).toNat=k:=rfl
    have hgk:x[i].getD k 0=x[i][k]:=by rw [List.getD_eq_getElem?_getD,List.getElem?_eq_getElem hk];rfl
    have hcast:(x[i][k]).1.1.1=(x[i][k]).toNat:=rfl
    have hd:decide ((k:Int)<(x[i].length:Int))=true:=decide_eq_true (by omega)
    have hink:(0≤(k:Int)∧(k:Int)<(x[i].length:Int)):=⟨by omega,by omega⟩
    have hb:(decide (((x[i][k]).toNat:Int)<32)||decide (((x[i][k]).toNat:Int) > 126))=!okB x[i][k]:=by
     unfold okB
     rw [Bool.eq_iff_iff]
     simp
     omega
    simp only [hzi,hgi,hzk,hgk,hd,if_true,hcast]
    rw [M.req_true hin,M.req_true hin,M.req_true hink,M.req_true (fun e=>⟨⟨e,e⟩,hin,trivial⟩),M.req_true (fun e=>⟨⟨e,e⟩,hink,trivial⟩),hb,add_def,hwk]
    cases okB x[i][k] with
    | true=>rfl
    | false=>simp only [Bool.not_false,if_true,M.bind_pure];rfl
   ·intro u
    have hd:decide ((x[i].length:Int)<(x[i].length:Int))=false:=decide_eq_false (by omega)
    simp only [hzi,hgi,hd]
    rw [M.req_true hin]
    simp
 ·intro u
  simp
end Go.Fer
namespace Go.Fer
open M (Step)
set_option linter.unusedVariables false
set_option linter.unusedSimpArgs false
def cntI (x:List Int) (v:Int):Nat:=(x.filter fun w=>decide (w=v)).length
def oftenV (x:List Int):Nat:=x.foldl (fun m v=>max m (cntI x v)) 0
abbrev fcOften:FC:=⟨.slice (.int .i64),.int .i64,fun x=>List.length x<65536,fun x=>(oftenV x:Int)⟩
theorem sOften (x):M.le (S_law14_often x) (fcOften.sh x):=M.le_det fun h=>by
 change List Int at x
 change x.length<65536 at h
 unfold S_law14_often
 show _=M.pure (oftenV x:Int)
 have hc:∀ v,cntI x v≤x.length:=fun v=>List.length_filter_le _ _
 rw [M.loop_list x (fun i (m:Nat)=>(x,(m:Int),(i:Int),())) (fun v m=>.next (max m (cntI x v))) (fun m=>.next ((m:Int),())) (fun _ m=>m≤x.length) 0 ?_ ?_ ?_ ?_]
 ·rw [foldS_next,M.bind_pure,M.go_next]
  rfl
 ·rfl
 ·exact Nat.zero_le _
 ·intro i hi m hm
  have hw:=wrap64 (n:=(i:Int)+1) (by omega) (by omega)
  refine ⟨?_,fun m' hm'=>?_⟩
  ·simp only [ofNat_def,lt_len hi,if_true]
   rw [M.loop_list x (fun k (n:Nat)=>(x,(m:Int),(i:Int),(n:Int),(k:Int),())) (fun w n=>.next (if decide (w=x[i])=true then n+1 else n)) (fun n=>.next (x,(m:Int),(i:Int),(n:Int),())) (fun k n=>n≤k) 0 ?_ ?_ ?_ ?_]
   ·rw [foldS_next,foldl_count,Nat.zero_add]
    show M.bind (M.bind (M.pure (Step.next (x,(m:Int),(i:Int),((cntI x x[i]:Nat):Int),()))) _) _=_
    rw [M.bind_pure,M.go_next,M.bind_pure,M.go_next]
    dsimp only
    have e:(if ((cntI x x[i]:Nat):Int) > (m:Int) then ((cntI x x[i]:Nat):Int) else (m:Int))=((max m (cntI x x[i]):Nat):Int):=by split<;>omega
    rw [e,add_def,hw]
    rfl
   ·rfl
   ·exact Nat.le_refl _
   ·intro k hk n hn
    have hwk:=wrap64 (n:=(k:Int)+1) (by omega) (by omega)
    have hwn:=wrap64 (n:=(n:Int)+1) (by omega) (by omega)
    refine ⟨?_,fun n' hn'=>?_⟩
    ·simp only [ofNat_def,lt_len hk,if_true,getD_nat hk,in_len hk,getD_nat hi,in_len hi,M.req_True,add_def,hwn]
     cases decide (x[k]=x[i]) with
     | true=>rw [if_pos rfl,M.bind_pure,M.go_next];dsimp only;rw [hwk,if_pos rfl];rfl
     | false=>rw [if_neg (by decide),M.bind_pure,M.go_next];dsimp only;rw [hwk,if_neg (by decide)];rfl
    ·simp only [Step.next.injEq] at hn'
     subst hn'
     split<;>omega
   ·intro n hn
    simp
  ·simp only [Step.next.injEq] at hm'
   subst hm'
   have:=hc x[i]
   omega
 ·intro m hm
  simp
end Go.Fer
namespace Go.Fer
open M (Step)
set_option linter.unusedVariables false
set_option linter.unusedSimpArgs false
def endsB (f:List UInt8) (p:Nat):Nat:=((List.range (p - 1)).filter fun k=>decide (f.getD (k+1) 0=10)&&decide (f.getD k 0=10)).length
def numberV (f:List UInt8) (p:Int):Int×Bool:=if p<0∨(f.length:Int)≤p∨f.getD p.toNat 0=10 then (0,false) else ((endsB f p.toNat:Int),true)
abbrev fcNumber:FC:=⟨.prod .str (.int .i64),.prod (.int .i64) .bool,fun x=>List.length x.1<65536,fun x=>numberV x.1 x.2⟩
theorem byte_ten {b:UInt8}:decide ((b.1.1.1:Int)=10)=decide (b=10):=decide_eq_decide.2 ⟨fun h=>UInt8.toNat_inj.1 (by show b.1.1.1=10;omega),fun h=>by rw [h];rfl⟩
theorem sNumber (x):M.le (S_law14_number x) (fcNumber.sh x):=M.le_det fun h=>by
 change List UInt8×Int at x
 obtain ⟨f,p⟩:=x
 change f.length<65536 at h
 unfold S_law14_number
 show _=M.pure (numberV f p)
 simp only [ofNat_def,byte_ten]
 by_cases h0:p<0
 ·rw [decide_eq_true h0]
  rw [show numberV f p=(0,false) from if_pos (.inl h0)]
  simp [M.req_True]
 ·by_cases h1:(f.length:Int)≤p
  ·rw [decide_eq_false h0,show decide (p≥(f.length:Int))=true from decide_eq_true h1]
   rw [show numberV f p=(0,false) from if_pos (.inr (.inl h1))]
   simp [M.req_True]
  ·have hin:(0≤p∧p<(f.length:Int)):=⟨by omega,by omega⟩
   rw [decide_eq_false h0,show decide (p≥(f.length:Int))=false from decide_eq_false (by omega)]
   simp only [Bool.or_false,Bool.not_false,Bool.false_or,forall_const,true_and,and_true,hin,and_self,M.req_True]
   by_cases h2:f.getD p.toNat 0=10
   ·rw [show numberV f p=(0,false) from if_pos (.inr (.inr h2)),decide_eq_true h2,if_pos rfl]
   ·have hno:¬(p<0∨(f.length:Int)≤p∨f.getD p.toNat 0=10):=fun k=>by
     rcases k with k | k | k
     ·omega
     ·omega
     ·exact h2 k
    rw [show numberV f p=((endsB f p.toNat:Int),true) from if_neg hno,decide_eq_false h2,if_neg (by decide)]
    clear hno
    obtain ⟨q,rfl⟩:∃ q:Nat,p=q:=⟨p.toNat,by omega⟩
    have hz:∀ n:Nat,((n:Int)).toNat=n:=fun _=>rfl
    rw [M.loop_list (List.range (q - 1)) (fun k (n:Nat)=>(f,(q:Int),(n:Int),(k:Int)+1,())) (fun k n=>.next (if (decide (f.getD (k+1) 0=10)&&decide (f.getD k 0=10))=true then n+1 else n)) (fun n=>.next ((n:Int),())) (fun k n=>n≤k) 0 ?_ ?_ ?_ ?_]
    ·rw [foldS_next,foldl_count,Nat.zero_add,M.bind_pure,M.go_next]
     rfl
    ·rfl
    ·exact Nat.le_refl _
    ·intro k hk n hn
     have hk':k<q - 1:=by simpa using hk
     have ek:(List.range (q - 1))[k]'hk=k:=List.getElem_range ..
     have hw:=wrap64 (n:=(k:Int)+1+1) (by omega) (by omega)
     have hwn:=wrap64 (n:=(n:Int)+1) (by omega) (by omega)
     have hwp:=wrap64 (n:=(k:Int)+1 - 1) (by omega) (by omega)
     have hd:decide ((k:Int)+1<(q:Int))=true:=decide_eq_true (by omega)
     have z1:((k:Int)+1).toNat=k+1:=by omega
     have z2:((k:Int)+1 - 1).toNat=k:=by omega
     have i1:(0≤(k:Int)+1∧(k:Int)+1<(f.length:Int)):=⟨by omega,by omega⟩
     have i2:(0≤(k:Int)+1 - 1∧(k:Int)+1 - 1<(f.length:Int)):=⟨by omega,by omega⟩
     refine ⟨?_,fun n' hn'=>?_⟩
     ·simp only [hd,if_true,hwp,z1,z2,byte_ten,add_def,hwn,ek]
      rw [M.req_true i1,M.req_true (fun e=>⟨e,i2⟩)]
      cases (decide (f.getD (k+1) 0=10)&&decide (f.getD k 0=10)) with
      | true=>rw [if_pos rfl,M.bind_pure,M.go_next];dsimp only;rw [hw,if_pos rfl];rfl
      | false=>rw [if_neg (by decide),M.bind_pure,M.go_next];dsimp only;rw [hw,if_neg (by decide)];rfl
     ·simp only [Step.next.injEq] at hn'
      subst hn'
      split<;>omega
    ·intro n hn
     have hl:(List.range (q - 1)).length=q - 1:=by simp
     rw [hl]
     have hd:decide (((q - 1:Nat):Int)+1<(q:Int))=false:=decide_eq_false (by omega)
     simp only [hd]
     simp
end Go.Fer
namespace Go.Fer
open M (Step)
set_option linter.unusedVariables false
set_option linter.unusedSimpArgs false
section
variable {α:Type}
theorem prow_pset_same:∀ (m:List (Nat×List α)) (id i:Nat) (d:α),prow (pset m id i d) id=(prow m id).set i d
 | [],id,i,d=>rfl
 | p::m,id,i,d=>by
  have ih:=prow_pset_same m id i d
  unfold prow pset at *
  by_cases h:p.1=id
  ·simp [h]
  ·simp only [List.map_cons,if_neg h,List.find?_cons,beq_eq_false_iff_ne.2 h]
   exact ih
theorem prow_pset_other:∀ (m:List (Nat×List α)) (id j i:Nat) (d:α),j≠id→prow (pset m id i d) j=prow m j
 | [],id,j,i,d,_=>rfl
 | p::m,id,j,i,d,hj=>by
  have ih:=prow_pset_other m id j i d hj
  unfold prow pset at *
  by_cases h:p.1=id
  ·have h2:¬p.1=j:=fun e=>hj (e.symm.trans h)
   simp only [List.map_cons,if_pos h,List.find?_cons,beq_eq_false_iff_ne.2 h2]
   exact ih
  ·by_cases h2:p.1=j
   ·simp [h2,hj]
   ·simp only [List.map_cons,if_neg h,List.find?_cons,beq_eq_false_iff_ne.2 h2]
    exact ih
theorem keys_pset (m:List (Nat×List α)) (id i:Nat) (d:α):(pset m id i d).map (·.1)=m.map (·.1):=by
 unfold pset
 rw [List.map_map]
 apply List.map_congr_left
 intro p _
 show (if p.1=id then (p.1,p.2.set i d) else p).1=p.1
 split<;>rfl
theorem any_pset (m:List (Nat×List α)) (id i j:Nat) (d:α):(pset m id i d).any (fun p=>p.1 == j)=m.any (fun p=>p.1 == j):=by
 have h:∀ l:List (Nat×List α),l.any (fun p=>p.1 == j)=(l.map (·.1)).any (fun k=>k == j):=fun l=>by rw [List.any_map];rfl
 rw [h,h,keys_pset]
end
def putI (r:List Int) (a:Int) (c:Int):List Int:=r.set a.toNat c
def rowBadI (r:List Int):Bool:=decide (r.getD (r.length - 1) 0≠chkI (r.take (r.length - 1)))
abbrev L57T:Type:=Int×(Int×Int)×(Nat×Nat×Nat)×List (Nat×List Int)×Unit
def pre57 (x:L57T):Prop:=okI x.1=true∧x.2.2.1.2.1=0∧x.2.2.1.2.2=(prow x.2.2.2.1 x.2.2.1.1).length∧rowOk (prow x.2.2.2.1 x.2.2.1.1)∧(0≤x.2.1.2∧x.2.1.2<(x.2.2.1.2.2:Int))∧x.2.2.2.1.any (fun p=>p.1 == x.2.2.1.1)=true
def shL57 (x:L57T):M (Bool×(Int×Int)×(Nat×Nat×Nat)×List (Nat×List Int)×Unit):=
 M.det (pre57 x) (!rowBadI (putI (prow x.2.2.2.1 x.2.2.1.1) x.2.1.2 x.1),x.2.1,x.2.2.1,pset x.2.2.2.1 x.2.2.1.1 x.2.1.2.toNat x.1,())
theorem set_ok {r:List Int} {i:Nat} {c:Int} (h:r.all okI=true) (hc:okI c=true):(r.set i c).all okI=true:=List.all_eq_true.2 fun v hv=>by
 rcases List.mem_or_eq_of_mem_set hv with h1 | h1
 ·exact List.all_eq_true.1 h v h1
 ·rw [h1];exact hc
theorem sL57 (x):M.le (S_io_l57 fcCheckP.pre fcCheckP.g x) (shL57 x):=M.le_det fun h=>by
 obtain ⟨c,⟨ln,a⟩,⟨id,lo,n⟩,m,u⟩:=x
 obtain ⟨h1,h2,h3,h4,h5,h6⟩:=h
 change lo=0 at h2
 change n=(prow m id).length at h3
 change rowOk (prow m id) at h4
 change 0≤a∧a<(n:Int) at h5
 change m.any (fun p=>p.1 == id)=true at h6
 subst h2
 unfold S_io_l57
 dsimp only
 obtain ⟨r1,r2,r3⟩:=h4
 have hw:=wrap64 (n:=(n:Int) - 1) (by omega) (by omega)
 have hz:((n:Int) - 1).toNat=n - 1:=by omega
 have z:(0:Int).toNat=0:=rfl
 have hr:prow (pset m id a.toNat c) id=putI (prow m id) a c:=prow_pset_same m id a.toNat c
 have hl:(putI (prow m id) a c).length=n:=by unfold putI;rw [List.length_set,h3]
 have hok:(putI (prow m id) a c).all okI=true:=set_ok r3 h1
 have hde:deref (.int .u8) (pset m id a.toNat c) (.raws (.int .u8)) (id,0,n - 1)=(putI (prow m id) a c).take (n - 1):=by
  show ((prow (pset m id a.toNat c) id).drop 0).take (n - 1)=_
  rw [hr];rfl
 simp only [ofNat_def,add_def,add_defN,Nat.zero_add,Nat.sub_zero,hw,hz,z,hr,hl]
 rw [M.req_true h5,M.req_true (by omega),M.req_true ⟨by omega,by omega⟩,M.req_true (by omega),M.req_true ⟨Int.le_refl _,by omega,by omega⟩]
 rw [hde,M.req_true ⟨⟨rfl,(any_pset m id a.toNat id c).trans h6,by show 0+(n - 1)≤(prow (pset m id a.toNat c) id).length;rw [hr,hl];omega⟩,by
  show ((putI (prow m id) a c).take (n - 1)).length<65536
  simp only [List.length_take];omega,List.all_eq_true.2 fun v hv=>List.all_eq_true.1 hok v (List.mem_of_mem_take hv)⟩]
 have e:rowBadI (putI (prow m id) a c)=!decide ((putI (prow m id) a c).getD (n - 1) 0=chkI ((putI (prow m id) a c).take (n - 1))):=by
  unfold rowBadI
  rw [hl]
  simp
 rw [e,Bool.not_not]
end Go.Fer
namespace Go.Fer
open M (Step)
set_option linter.unusedVariables false
set_option linter.unusedSimpArgs false
theorem M.ret_loopN {σ ρ:Type} {body:σ→M (Step σ ρ)} {p:ρ→Prop} {s0:σ} (n:Nat) (I:Nat→σ→Prop) (h0:I 0 s0)
  (hs:∀ i,i<n→∀ s,I i s→M.Ret (body s) fun st=>match st with | .next s'=>I (i+1) s' | .done r=>p r)
  (hf:∀ s,I n s→M.Ret (body s) fun st=>match st with | .next _=>False | .done r=>p r):M.Ret (M.loop body s0) p:=by
 have key:∀ k i s,n - i=k→i≤n→I i s→M.Ret (M.loop body s) p:=by
  intro k
  induction k with
  | zero=>
   intro i s hk hi h
   have:i=n:=by omega
   subst this
   rw [M.loop_unfold,M.ret_bind]
   refine (hf s h).mono fun y hy=>?_
   cases y with
   | next s'=>exact hy.elim
   | done r=>exact M.ret_pure.2 hy
  | succ k ih=>
   intro i s hk hi h
   rw [M.loop_unfold,M.ret_bind]
   refine (hs i (by omega) s h).mono fun y hy=>?_
   cases y with
   | next s'=>exact ih (i+1) s' (by omega) (by omega) hy
   | done r=>exact M.ret_pure.2 hy
 exact key n 0 s0 (by omega) (by omega) h0
def totI (l:List Int):Int:=(l.map fun x=>x - 32).sum
theorem foldl_addI_tot:∀ (l:List Int) (s:Int),0≤s→s≤94→l.all okI=true→l.foldl addI s=(s+totI l) % 95
 | [],s,h,h2,_=>by show s=(s+0) % 95;omega
 | c::l,s,h,h2,ha=>by
  simp only [List.all_cons,Bool.and_eq_true] at ha
  have hc:=okI_iff.1 ha.1
  obtain ⟨k1,k2⟩:=addI_bound h ha.1
  have ih:=foldl_addI_tot l _ k1 k2 ha.2
  have e:addI s c=(s+c - 32) % 95:=tmod_pos (by omega)
  have et:totI (c::l)=(c - 32)+totI l:=rfl
  rw [List.foldl_cons,ih,e,et]
  omega
theorem chkI_tot {l:List Int} (h:l.all okI=true):chkI l=totI l % 95+32:=by
 have:=foldl_addI_tot l 0 (Int.le_refl _) (by decide) h
 unfold chkI sumI
 rw [this]
 simp
theorem totI_set:∀ (l:List Int) (i:Nat) (c:Int),i<l.length→totI (l.set i c)=totI l - l.getD i 0+c
 | [],i,c,h=>by cases h
 | x::l,0,c,h=>by
  show (c - 32)+totI l=(x - 32)+totI l - x+c
  omega
 | x::l,i+1,c,h=>by
  have:=totI_set l i c (by simpa using h)
  show (x - 32)+totI (l.set i c)=(x - 32)+totI l - l.getD i 0+c
  omega
theorem getD_set {l:List Int} {i j:Nat} {c:Int} (h:i<l.length):(l.set i c).getD j 0=if i=j then c else l.getD j 0:=by
 simp only [List.getD_eq_getElem?_getD,List.getElem?_set]
 by_cases e:i=j
 ·subst e;simp [h]
 ·simp [e]
theorem getD_ok {l:List Int} (h:l.all okI=true) {i:Nat} (hi:i<l.length):32≤l.getD i 0∧l.getD i 0≤126:=by
 have:=okI_iff.1 (List.all_eq_true.1 h _ (List.getElem_mem hi))
 rw [List.getD_eq_getElem?_getD,List.getElem?_eq_getElem hi]
 exact this
theorem all_takeI {l:List Int} {p:Int→Bool} (h:l.all p=true) (n:Nat):(l.take n).all p=true:=List.all_eq_true.2 fun x hx=>List.all_eq_true.1 h x (List.mem_of_mem_take hx)
def defI (r:List Int):Int:=totI (r.take (r.length - 1)) - (r.getD (r.length - 1) 0 - 32)
theorem rowBadI_iff {r:List Int} (h:rowOk r):rowBadI r=false↔defI r % 95=0:=by
 obtain ⟨h1,h2,h3⟩:=h
 have hl:=getD_ok h3 (i:=r.length - 1) (by omega)
 unfold rowBadI defI
 rw [chkI_tot (all_takeI h3 _),decide_eq_false_iff_not,Decidable.not_not]
 omega
theorem putI_len (r:List Int) (a c:Int):(putI r a c).length=r.length:=by unfold putI;simp
theorem putI_ok {r:List Int} {a c:Int} (h:rowOk r) (hc:okI c=true):rowOk (putI r a c):=⟨by rw [putI_len];exact h.1,by rw [putI_len];exact h.2.1,set_ok h.2.2 hc⟩
theorem defI_put {r:List Int} {a c:Int} (h:2≤r.length) (h0:0≤a) (ha:a<(r.length:Int)):defI (putI r a c)=if a.toNat=r.length - 1 then defI r+r.getD a.toNat 0 - c else defI r - r.getD a.toNat 0+c:=by
 have hi:a.toNat<r.length:=by omega
 unfold defI
 rw [putI_len]
 unfold putI
 rw [getD_set hi,List.take_set]
 by_cases e:a.toNat=r.length - 1
 ·rw [if_pos e,if_pos e,List.set_eq_of_length_le (by simp;omega),e]
  omega
 ·have hi2:a.toNat<(r.take (r.length - 1)).length:=by simp;omega
  rw [if_neg e,if_neg e,totI_set _ _ _ hi2]
  have:(r.take (r.length - 1)).getD a.toNat 0=r.getD a.toNat 0:=by
   simp only [List.getD_eq_getElem?_getD,List.getElem?_take]
   rw [if_pos (by omega)]
  rw [this]
  omega
theorem fix_ex {r:List Int} {a:Int} (h:rowOk r) (h0:0≤a) (ha:a<(r.length:Int)):∃ c,okI c=true∧rowBadI (putI r a c)=false:=by
 by_cases e:a.toNat=r.length - 1
 ·have hc:okI (32+(r.getD a.toNat 0 - 32+defI r) % 95)=true:=okI_iff.2 (by omega)
  refine ⟨_,hc,(rowBadI_iff (putI_ok h hc)).2 ?_⟩
  rw [defI_put h.1 h0 ha,if_pos e]
  omega
 ·have hc:okI (32+(r.getD a.toNat 0 - 32 - defI r) % 95)=true:=okI_iff.2 (by omega)
  refine ⟨_,hc,(rowBadI_iff (putI_ok h hc)).2 ?_⟩
  rw [defI_put h.1 h0 ha,if_neg e]
  omega
theorem fix_unique {r:List Int} {a c d:Int} (h:rowOk r) (h0:0≤a) (ha:a<(r.length:Int)) (hc:okI c=true) (hd:okI d=true) (h1:rowBadI (putI r a c)=false) (h2:rowBadI (putI r a d)=false):c=d:=by
 have k1:=(rowBadI_iff (putI_ok h hc)).1 h1
 have k2:=(rowBadI_iff (putI_ok h hd)).1 h2
 have c1:=okI_iff.1 hc
 have d1:=okI_iff.1 hd
 rw [defI_put h.1 h0 ha] at k1 k2
 by_cases e:a.toNat=r.length - 1
 ·rw [if_pos e] at k1 k2;omega
 ·rw [if_neg e] at k1 k2;omega
theorem mem_letters {c:Int}:c∈lettersI↔okI c=true:=by
 unfold lettersI
 rw [List.mem_map,okI_iff]
 constructor
 ·rintro ⟨i,hi,rfl⟩
  have:=List.mem_range.1 hi
  omega
 ·intro h
  exact ⟨(c - 32).toNat,List.mem_range.2 (by omega),by omega⟩
def fixI (r:List Int) (a:Int):Int:=(lettersI.find? fun c=>!rowBadI (putI r a c)).getD 32
theorem fixI_find {r:List Int} {a:Int} (h:rowOk r) (h0:0≤a) (ha:a<(r.length:Int)):(lettersI.find? fun c=>!rowBadI (putI r a c))=some (fixI r a):=by
 unfold fixI
 cases hf:lettersI.find? fun c=>!rowBadI (putI r a c) with
 | some c=>rfl
 | none=>
  obtain ⟨c,hc,hb⟩:=fix_ex h h0 ha
  have:=List.find?_eq_none.1 hf c (mem_letters.2 hc)
  rw [hb] at this
  exact absurd rfl this
theorem fixI_ok {r:List Int} {a:Int} (h:rowOk r) (h0:0≤a) (ha:a<(r.length:Int)):okI (fixI r a)=true∧rowBadI (putI r a (fixI r a))=false:=by
 have hf:=fixI_find h h0 ha
 have h1:=List.find?_some hf
 exact ⟨mem_letters.1 (List.mem_of_find?_eq_some hf),by simpa using h1⟩
theorem fixI_eq {r:List Int} {a c:Int} (h:rowOk r) (h0:0≤a) (ha:a<(r.length:Int)) (hc:okI c=true) (hb:rowBadI (putI r a c)=false):fixI r a=c:=
 fix_unique h h0 ha (fixI_ok h h0 ha).1 hc (fixI_ok h h0 ha).2 hb
abbrev Hd:Type:=Nat×Nat×Nat
abbrev Pool:Type:=List (Nat×List Int)
def hOk (m:Pool) (h:Hd):Prop:=m.any (fun p=>p.1 == h.1)=true∧h.2.1=0∧h.2.2=(prow m h.1).length
def rowsH (m:Pool) (b:List Hd):List (List Int):=b.map fun h=>prow m h.1
theorem pset_pset (m:Pool) (id i:Nat) (c d:Int):pset (pset m id i c) id i d=pset m id i d:=by
 unfold pset
 rw [List.map_map]
 apply List.map_congr_left
 intro p _
 show (if (if p.1=id then (p.1,p.2.set i c) else p).1=id then _ else _)=_
 by_cases h:p.1=id
 ·rw [if_pos h]
  simp [h]
 ·rw [if_neg h,if_neg h,if_neg h]
theorem foldS_find {α ρ:Type} {good:α→Bool} {g:α→ρ} {fin:Unit→ρ}:∀ (l:List α) (u:Unit),foldS (fun c u=>if good c=true then (.done (g c):Step Unit ρ) else .next u) fin l u=match l.find? good with | some c=>g c | none=>fin ()
 | [],u=>rfl
 | c::l,u=>by
  simp only [foldS,List.find?_cons]
  cases good c with
  | true=>rfl
  | false=>exact foldS_find l u
abbrev CfT:Type:=List Int×(Int×Int)×Hd×Pool×Unit
def preCf (x:CfT):Prop:=x.1=lettersI∧hOk x.2.2.2.1 x.2.2.1∧rowOk (prow x.2.2.2.1 x.2.2.1.1)∧0≤x.2.1.2∧x.2.1.2<(x.2.2.1.2.2:Int)
def shIdxf (x:CfT):M (Int×(Int×Int)×Hd×Pool×Unit):=
 M.det (preCf x) (fixI (prow x.2.2.2.1 x.2.2.1.1) x.2.1.2 - 32,x.2.1,x.2.2.1,pset x.2.2.2.1 x.2.2.1.1 x.2.1.2.toNat (fixI (prow x.2.2.2.1 x.2.2.1.1) x.2.1.2),())
def shCf (x:CfT):M (Bool×(Int×Int)×Hd×Pool×Unit):=
 M.det (preCf x) (true,x.2.1,x.2.2.1,pset x.2.2.2.1 x.2.2.1.1 x.2.1.2.toNat (fixI (prow x.2.2.2.1 x.2.2.1.1) x.2.1.2),())
def poolAt (m:Pool) (id:Nat) (a:Int):Nat→Pool
 | 0=>m
 | i+1=>pset m id a.toNat ((i:Int)+32)
theorem sIdxf (x):M.le (S_io_idxf shL57 x) (shIdxf x):=M.le_det fun h=>by
 obtain ⟨l,⟨ln,a⟩,⟨id,lo,n⟩,m,u⟩:=x
 obtain ⟨h1,h2,h3,h4,h5⟩:=h
 change l=lettersI at h1
 obtain ⟨k1,k2,k3⟩:=h2
 change m.any (fun p=>p.1 == id)=true at k1
 change lo=0 at k2
 change n=(prow m id).length at k3
 change rowOk (prow m id) at h3
 change 0≤a at h4
 change a<(n:Int) at h5
 subst h1 k2
 unfold S_io_idxf
 dsimp only
 have hll:lettersI.length=95:=by decide
 rw [M.loop_listT lettersI (fun i (_:Unit)=>(lettersI,(lettersI.length:Int),(i:Int),(ln,a),(id,0,n),poolAt m id a i,())) (fun c u=>if (!rowBadI (putI (prow m id) a c))=true then .done (.done (c - 32,(ln,a),(id,0,n),pset m id a.toNat c,())) else .next u) (fun _=>.next ((ln,a),(id,0,n),poolAt m id a 95,())) () ?_ ?_ ?_]
 ·rw [foldS_find,fixI_find h3 h4 (by omega),M.bind_pure,M.go_done]
 ·rfl
 ·intro i hi u
  have hi':i<95:=by rw [hll] at hi;exact hi
  have hw:=wrap64 (n:=(i:Int)+1) (by omega) (by omega)
  have hc:lettersI[i]=(i:Int)+32:=by simp [lettersI]
  have hok:okI lettersI[i]=true:=mem_letters.1 (List.getElem_mem hi)
  have hp:pset (poolAt m id a i) id a.toNat lettersI[i]=pset m id a.toNat lettersI[i]:=by
   cases i with
   | zero=>rfl
   | succ i=>exact pset_pset m id a.toNat _ _
  have hr:putI (prow (poolAt m id a i) id) a lettersI[i]=putI (prow m id) a lettersI[i]:=by
   cases i with
   | zero=>rfl
   | succ i=>
    show putI (prow (pset m id a.toNat _) id) a _=_
    rw [prow_pset_same]
    unfold putI
    rw [List.set_set]
  have hrl:(prow (poolAt m id a i) id).length=(prow m id).length:=by
   cases i with
   | zero=>rfl
   | succ i=>
    show (prow (pset m id a.toNat _) id).length=_
    rw [prow_pset_same,List.length_set]
  have hro:rowOk (prow (poolAt m id a i) id):=by
   cases i with
   | zero=>exact h3
   | succ i=>
    show rowOk (prow (pset m id a.toNat _) id)
    rw [prow_pset_same]
    exact putI_ok h3 (okI_iff.2 ⟨by omega,by omega⟩)
  have hka:(poolAt m id a i).any (fun p=>p.1 == id)=true:=by
   cases i with
   | zero=>exact k1
   | succ i=>exact (any_pset m id a.toNat id _).trans k1
  have hl57:shL57 (lettersI[i],(ln,a),(id,0,n),poolAt m id a i,())=M.pure (!rowBadI (putI (prow m id) a lettersI[i]),(ln,a),(id,0,n),pset m id a.toNat lettersI[i],()):=by
   refine (M.det_true (show pre57 (lettersI[i],(ln,a),(id,0,n),poolAt m id a i,()) from ⟨hok,rfl,by show n=_;rw [hrl];exact k3,hro,⟨h4,h5⟩,hka⟩) _).trans ?_
   dsimp only
   rw [hr,hp]
  simp only [ofNat_def,lt_len hi,if_true,getD_nat hi,in_len hi,M.req_True,Prod.q5]
  erw [hl57]
  rw [M.bind_pure]
  dsimp only
  cases rowBadI (putI (prow m id) a lettersI[i]) with
  | false=>
   have:lettersI[i] - 32=(i:Int):=by omega
   simp only [Bool.not_false,if_true,M.bind_pure]
   show _=M.pure (Step.done (Step.done ((lettersI[i] - 32:Int),(ln,a),(id,0,n),pset m id a.toNat lettersI[i],())))
   rw [this]
  | true=>
   simp only [Bool.not_true,Bool.false_eq_true,if_false,add_def,hw]
   rw [hc]
   rfl
 ·intro u
  rw [hll]
  simp
theorem sCf (x):M.le (S_io_cf shIdxf x) (shCf x):=M.le_det fun h=>by
 unfold S_io_cf shIdxf
 dsimp only
 rw [M.det_true (show preCf (x.1,x.2.1,x.2.2.1,x.2.2.2.1,()) from h),M.bind_pure]
 dsimp only
 obtain ⟨h1,h2,h3,h4,h5⟩:=h
 have:=okI_iff.1 (fixI_ok h3 h4 (by rw [←h2.2.2];exact h5)).1
 rw [show decide (fixI (prow x.2.2.2.1 x.2.2.1.1) x.2.1.2 - 32≥0)=true from decide_eq_true (by omega)]
end Go.Fer
namespace Go.Fer
open M (Step)
set_option linter.unusedVariables false
set_option linter.unusedSimpArgs false
def shapedI (W:Nat) (R:List (List Int)):Prop:=2≤R.length∧R.length≤9∧2≤W∧W≤62∧∀ r∈R,r.length=W∧r.all okI=true
def colBadI (R:List (List Int)) (c:Nat):Bool:=decide ((R.getD (R.length - 1) []).getD c 0≠chkI (colI (R.take (R.length - 1)) (c:Int)))
def badRowsI (R:List (List Int)):List Int:=(idxI R.length).filter fun v=>rowBadI (R.getD v.toNat [])
def badColsI (W:Nat) (R:List (List Int)):List Int:=(idxI W).filter fun v=>colBadI R v.toNat
def mendI (R:List (List Int)) (r a:Int):List (List Int):=R.set r.toNat (putI (R.getD r.toNat []) a (fixI (R.getD r.toNat []) a))
def lookI (W:Nat) (R:List (List Int)):Int×Int×Int:=
 if (badRowsI R).length+(badColsI W R).length=0 then (0,0,0)
 else if (badRowsI R).length≠1∨(badColsI W R).length≠1 then (2,0,0)
 else if colBadI (mendI R ((badRowsI R).getD 0 0) ((badColsI W R).getD 0 0)) ((badColsI W R).getD 0 0).toNat=true then (2,0,0)
 else (1,(badRowsI R).getD 0 0,(badColsI W R).getD 0 0)
theorem shapedI.row {W:Nat} {R:List (List Int)} (h:shapedI W R) {r:List Int} (hr:r∈R):rowOk r:=by
 obtain ⟨h1,h2,h3,h4,h5⟩:=h
 obtain ⟨k1,k2⟩:=h5 r hr
 exact ⟨by omega,by omega,k2⟩
theorem badRowsI_mem {R:List (List Int)} {v:Int}:v∈badRowsI R↔∃ i:Nat,i<R.length∧v=(i:Int)∧rowBadI (R.getD i [])=true:=by
 unfold badRowsI idxI
 rw [List.mem_filter,List.mem_map]
 constructor
 ·rintro ⟨⟨i,hi,rfl⟩,hb⟩
  exact ⟨i,List.mem_range.1 hi,rfl,hb⟩
 ·rintro ⟨i,hi,rfl,hb⟩
  exact ⟨⟨i,List.mem_range.2 hi,rfl⟩,hb⟩
theorem badColsI_mem {W:Nat} {R:List (List Int)} {v:Int}:v∈badColsI W R↔∃ i:Nat,i<W∧v=(i:Int)∧colBadI R i=true:=by
 unfold badColsI idxI
 rw [List.mem_filter,List.mem_map]
 constructor
 ·rintro ⟨⟨i,hi,rfl⟩,hb⟩
  exact ⟨i,List.mem_range.1 hi,rfl,hb⟩
 ·rintro ⟨i,hi,rfl,hb⟩
  exact ⟨⟨i,List.mem_range.2 hi,rfl⟩,hb⟩
theorem rowsH_len (m:Pool) (b:List Hd):(rowsH m b).length=b.length:=by simp [rowsH]
theorem rowsH_get {m:Pool} {b:List Hd} {k:Nat} (h:k<b.length):(rowsH m b).getD k []=prow m (b.getD k (0,0,0)).1:=by
 unfold rowsH
 simp only [List.getD_eq_getElem?_getD,List.getElem?_map,List.getElem?_eq_getElem h]
 rfl
theorem getD_memH {b:List Hd} {k:Nat} (h:k<b.length):b.getD k (0,0,0)∈b:=by
 rw [List.getD_eq_getElem?_getD,List.getElem?_eq_getElem h]
 exact List.getElem_mem h
theorem deref_row {m:Pool} {h:Hd} (hk:hOk m h) {k:Nat} (hn:k≤h.2.2):RawOk (.int .u8) m (.raws (.int .u8)) (h.1,0,k)∧deref (.int .u8) m (.raws (.int .u8)) (h.1,0,k)=(prow m h.1).take k:=by
 obtain ⟨k1,k2,k3⟩:=hk
 refine ⟨⟨rfl,k1,by show 0+k≤(prow m h.1).length;omega⟩,?_⟩
 show ((prow m h.1).drop 0).take k=_
 rfl
theorem deref_rows {m:Pool} {b:List Hd} (hk:∀ h∈b,hOk m h):RawOk (.int .u8) m (.slice (.raws (.int .u8))) b∧deref (.int .u8) m (.slice (.raws (.int .u8))) b=rowsH m b:=by
 have h1:∀ h∈b,RawOk (.int .u8) m (.raws (.int .u8)) h∧deref (.int .u8) m (.raws (.int .u8)) h=prow m h.1:=fun h hh=>by
  obtain ⟨id,lo,n⟩:=h
  have k:=hk _ hh
  obtain ⟨k1,k2,k3⟩:=k
  change lo=0 at k2
  change n=(prow m id).length at k3
  subst k2
  have:=deref_row (hk _ hh) (k:=n) (Nat.le_refl _)
  rw [k3,List.take_length,←k3] at this
  exact this
 refine ⟨fun h hh=>(h1 h hh).1,?_⟩
 show b.map (deref (.int .u8) m (.raws (.int .u8)))=b.map _
 exact List.map_congr_left fun h hh=>(h1 h hh).2
theorem hOk_pset {m:Pool} {h:Hd} (hk:hOk m h) (id i:Nat) (c:Int):hOk (pset m id i c) h:=by
 obtain ⟨k1,k2,k3⟩:=hk
 refine ⟨(any_pset m id i h.1 c).trans k1,k2,?_⟩
 rw [k3]
 by_cases e:h.1=id
 ·rw [e,prow_pset_same,List.length_set]
 ·rw [prow_pset_other m id h.1 i c e]
theorem rowsH_pset_other {m:Pool} {b:List Hd} {id:Nat} (hn:id ∉ b.map (·.1)) (i:Nat) (c:Int):rowsH (pset m id i c) b=rowsH m b:=by
 unfold rowsH
 refine List.map_congr_left fun h hh=>prow_pset_other m id h.1 i c fun e=>hn ?_
 rw [←e]
 exact List.mem_map_of_mem (f:=(·.1)) hh
theorem rowsH_pset {m:Pool}:∀ {b:List Hd} (_:(b.map (·.1)).Nodup) {k:Nat} (_:k<b.length) (i:Nat) (c:Int),rowsH (pset m (b.getD k (0,0,0)).1 i c) b=(rowsH m b).set k (((rowsH m b).getD k []).set i c)
 | [],_,k,h,_,_=>by cases h
 | h::b,hn,0,_,i,c=>by
  simp only [List.map_cons,List.nodup_cons] at hn
  show prow (pset m h.1 i c) h.1::rowsH (pset m h.1 i c) b=(prow m h.1).set i c::rowsH m b
  rw [prow_pset_same,rowsH_pset_other hn.1]
 | h::b,hn,k+1,hk,i,c=>by
  simp only [List.map_cons,List.nodup_cons] at hn
  have hk':k<b.length:=by simpa using hk
  have ih:=rowsH_pset (m:=m) hn.2 hk' i c
  show prow (pset m (b.getD k (0,0,0)).1 i c) h.1::rowsH (pset m (b.getD k (0,0,0)).1 i c) b=prow m h.1::(rowsH m b).set k (((rowsH m b).getD k []).set i c)
  rw [ih,prow_pset_other]
  intro e
  exact hn.1 (by rw [e];exact List.mem_map_of_mem (f:=(·.1)) (getD_memH hk'))
theorem pset_self {m:Pool} (hn:(m.map (·.1)).Nodup) (id i:Nat):pset m id i ((prow m id).getD i 0)=m:=by
 have key:∀ p∈m,(if p.1=id then (p.1,p.2.set i ((prow m id).getD i 0)) else p)=p:=by
  rintro ⟨j,l⟩ hp
  by_cases e:j=id
  ·subst e
   have hl:prow m j=l:=prow_of hn hp
   rw [if_pos rfl,hl]
   show (j,l.set i (l.getD i 0))=(j,l)
   rw [List.getD_eq_getElem?_getD]
   by_cases hi:i<l.length
   ·rw [List.getElem?_eq_getElem hi];simp
   ·rw [List.set_eq_of_length_le (by omega)]
  ·exact if_neg e
 unfold pset
 rw [List.map_congr_left key]
 simp
abbrev LkT:Type:=List Hd×Pool×Unit
def preLook (x:LkT):Prop:=(x.2.1.map (·.1)).Nodup∧(∀ h∈x.1,hOk x.2.1 h)∧(x.1.map (·.1)).Nodup∧∃ W,shapedI W (rowsH x.2.1 x.1)
abbrev wideI (R:List (List Int)):Nat:=(R.getD 0 []).length
def lookV (x:LkT):Int×Int×Int:=lookI (wideI (rowsH x.2.1 x.1)) (rowsH x.2.1 x.1)
def poolL (x:LkT):Pool:=if (lookV x).1=1 then pset x.2.1 (x.1.getD (lookV x).2.1.toNat (0,0,0)).1 (lookV x).2.2.toNat (fixI ((rowsH x.2.1 x.1).getD (lookV x).2.1.toNat []) (lookV x).2.2) else x.2.1
def shLook (x:LkT):M (Int×(Int×Int)×Pool×Unit):=M.det (preLook x) ((lookV x).1,(lookV x).2,poolL x,())
theorem shapedI.wide {W:Nat} {R:List (List Int)} (h:shapedI W R):wideI R=W:=by
 obtain ⟨h1,h2,h3,h4,h5⟩:=h
 have h0:0<R.length:=by omega
 unfold wideI
 rw [List.getD_eq_getElem?_getD,List.getElem?_eq_getElem h0]
 exact (h5 _ (List.getElem_mem h0)).1
theorem colI_okR {R:List (List Int)} {W c:Nat} (h:∀ r∈R,r.length=W∧r.all okI=true) (hc:c<W):(colI R (c:Int)).all okI=true:=colI_ok fun r hr=>⟨(h r hr).2,by have:=(h r hr).1;omega⟩
theorem sLook (x):M.le (S_io_look fcCheckP.pre fcCheckP.g fcColumn.pre fcColumn.g shCf fcPrintable.sh x) (shLook x):=M.le_det fun h=>by
 obtain ⟨b,m,u⟩:=x
 obtain ⟨p1,p2,p3,W,hS⟩:=h
 change (m.map (·.1)).Nodup at p1
 change ∀ h∈b,hOk m h at p2
 change (b.map (·.1)).Nodup at p3
 change shapedI W (rowsH m b) at hS
 have hwide:=hS.wide
 have hrl:=rowsH_len m b
 have hlV:lookV (b,m,u)=lookI W (rowsH m b):=by show lookI (wideI (rowsH m b)) (rowsH m b)=_;rw [hwide]
 have hpL:poolL (b,m,u)=if (lookI W (rowsH m b)).1=1 then pset m (b.getD (lookI W (rowsH m b)).2.1.toNat (0,0,0)).1 (lookI W (rowsH m b)).2.2.toNat (fixI ((rowsH m b).getD (lookI W (rowsH m b)).2.1.toNat []) (lookI W (rowsH m b)).2.2) else m:=by unfold poolL;rw [hlV]
 rw [hlV,hpL]
 clear hlV hpL
 have hg:=fun k (hk:k<b.length)=>rowsH_get (m:=m) hk
 obtain ⟨q1,q2,q3,q4,q5⟩:=hS
 rw [hrl] at q1 q2
 have hk:=fun k (hk:k<b.length)=>p2 _ (getD_memH hk)
 have hrow:=fun k (hk:k<b.length)=>q5 ((rowsH m b).getD k []) (by
  have hk2:k<(rowsH m b).length:=by rw [hrl];exact hk
  rw [List.getD_eq_getElem?_getD,List.getElem?_eq_getElem hk2]
  exact List.getElem_mem hk2)
 obtain ⟨d1,d2⟩:=deref_rows p2
 have hcolR:∀ c:Nat,c<W→preCol (rowsH m b) (c:Int) 1:=fun c hc=>⟨by rw [hrl];omega,⟨by decide,by rw [hrl];omega⟩,by omega,fun r hr=>by have:=(q5 r hr).1;omega⟩
 have hchk:∀ (R:List (List Int)) (c:Nat),(∀ r∈R,r.length=W∧r.all okI=true)→R.length≤9→c<W→fcCheckP.pre (colI (R.take (R.length - 1)) (c:Int)):=fun R c hR hl hc=>⟨by show (colI _ _).length<65536;unfold colI;simp;omega,colI_okR (fun r hr=>hR r (List.mem_of_mem_take hr)) hc⟩
 unfold S_io_look
 dsimp only
 rw [M.loop_list (idxI b.length) (fun i (o:List Int)=>(b,b,(b.length:Int),(i:Int),(0,0),o,[],m,())) (fun v o=>.next (if rowBadI ((rowsH m b).getD v.toNat [])=true then o++[v] else o)) (fun o=>.next (b,(0,0),o,[],m,())) (fun i o=>o.length≤i) [] ?_ ?_ ?_ ?_]
 ·rw [foldS_next,foldl_filter_app,M.bind_pure,M.go_next]
  dsimp only
  have hB:[]++List.filter (fun v=>rowBadI ((rowsH m b).getD v.toNat [])) (idxI b.length)=badRowsI (rowsH m b):=by unfold badRowsI;rw [hrl];rfl
  rw [hB,M.req_true (by rw [ofNat_def];omega)]
  have h0:=hk 0 (by omega)
  have hr0:=hrow 0 (by omega)
  rw [hg 0 (by omega)] at hr0
  have z:(0:Int).toNat=0:=rfl
  have z1:(1:Int).toNat=1:=rfl
  have hW0:(b.getD (0:Int).toNat (0,0,0)).2.2=W:=by rw [z,h0.2.2,hr0.1]
  rw [hW0]
  have hl1:=wrap64 (n:=(b.length:Int) - 1) (by omega) (by omega)
  have hz1:((b.length:Int) - 1).toNat=b.length - 1:=by omega
  have hlast:=hk (b.length - 1) (by omega)
  have hrlast:=hrow (b.length - 1) (by omega)
  rw [hg _ (by omega)] at hrlast
  have hlk3:=hlast.2.2
  rw [hrlast.1] at hlk3
  have hlk2:=hlast.2.1
  rw [M.loop_list (idxI W) (fun i (o:List Int)=>(b,(W:Int),(i:Int),(0,0),badRowsI (rowsH m b),o,m,())) (fun v o=>.next (if colBadI (rowsH m b) v.toNat=true then o++[v] else o)) (fun o=>.next (b,(0,0),badRowsI (rowsH m b),o,m,())) (fun i o=>o.length≤i) [] ?_ ?_ ?_ ?_]
  ·rw [foldS_next,foldl_filter_app,M.bind_pure,M.go_next]
   dsimp only
   have hC:[]++List.filter (fun v=>colBadI (rowsH m b) v.toNat) (idxI W)=badColsI W (rowsH m b):=rfl
   rw [hC]
   have l1:(badRowsI (rowsH m b)).length≤9:=Nat.le_trans (filt_len _ _) (by rw [hrl];exact q2)
   have l2:(badColsI W (rowsH m b)).length≤62:=Nat.le_trans (filt_len _ _) q4
   have hws:=wrap64 (n:=((badRowsI (rowsH m b)).length:Int)+((badColsI W (rowsH m b)).length:Int)) (by omega) (by omega)
   simp only [ofNat_def,add_def,hws]
   unfold lookI
   by_cases c1:(badRowsI (rowsH m b)).length+(badColsI W (rowsH m b)).length=0
   ·rw [if_pos c1,if_pos (decide_eq_true (by omega)),if_neg (by decide)]
   ·rw [if_neg c1,if_neg (by rw [decide_eq_true_iff];omega)]
    by_cases c2:(badRowsI (rowsH m b)).length≠1∨(badColsI W (rowsH m b)).length≠1
    ·rw [if_pos c2,if_pos (by rw [Bool.or_eq_true,decide_eq_true_iff,decide_eq_true_iff];omega),if_neg (by decide)]
    ·rw [if_neg c2,if_neg (by rw [Bool.or_eq_true,decide_eq_true_iff,decide_eq_true_iff];omega)]
     obtain ⟨v1,e1⟩:=List.length_eq_one_iff.1 (show (badRowsI (rowsH m b)).length=1 by omega)
     obtain ⟨v2,e2⟩:=List.length_eq_one_iff.1 (show (badColsI W (rowsH m b)).length=1 by omega)
     obtain ⟨i,hi,rfl,hib⟩:=badRowsI_mem.1 (show v1∈badRowsI (rowsH m b) by rw [e1];simp)
     obtain ⟨j,hj,rfl,hjb⟩:=badColsI_mem.1 (show v2∈badColsI W (rowsH m b) by rw [e2];simp)
     rw [hrl] at hi
     rw [e1,e2]
     have g1:List.getD [(i:Int)] 0 0=(i:Int):=rfl
     have g2:List.getD [(j:Int)] 0 0=(j:Int):=rfl
     have zi:((i:Int)).toNat=i:=rfl
     have zj:((j:Int)).toNat=j:=rfl
     simp only [z,g1,g2,zi,zj]
     have hki:=hk i hi
     have hri:=hrow i hi
     rw [hg i hi] at hri
     have hki3:=hki.2.2
     rw [hri.1] at hki3
     have hki2:=hki.2.1
     have hrok:rowOk (prow m (b.getD i (0,0,0)).1):=⟨by omega,by omega,hri.2⟩
     have hfx:=fixI_ok hrok (a:=(j:Int)) (by omega) (by omega)
     have hM:rowsH (pset m (b.getD i (0,0,0)).1 j (fixI (prow m (b.getD i (0,0,0)).1) (j:Int))) b=mendI (rowsH m b) (i:Int) (j:Int):=by
      rw [rowsH_pset p3 hi]
      unfold mendI putI
      rw [zi,zj,hg i hi]
     have hp2':∀ h∈b,hOk (pset m (b.getD i (0,0,0)).1 j (fixI (prow m (b.getD i (0,0,0)).1) (j:Int))) h:=fun h hh=>hOk_pset (p2 h hh) _ _ _
     have hself:pset (pset m (b.getD i (0,0,0)).1 j (fixI (prow m (b.getD i (0,0,0)).1) (j:Int))) (b.getD i (0,0,0)).1 j ((prow m (b.getD i (0,0,0)).1).getD j 0)=m:=by rw [pset_pset,pset_self p1]
     have hprl:(prow (pset m (b.getD i (0,0,0)).1 j (fixI (prow m (b.getD i (0,0,0)).1) (j:Int))) (b.getD i (0,0,0)).1).length=W:=by rw [prow_pset_same,List.length_set,hri.1]
     rw [M.req_true ⟨Int.le_refl _,show (0:Int)<1 by decide⟩,M.req_true ⟨Int.le_refl _,show (0:Int)<1 by decide⟩,M.req_true ⟨by omega,by omega⟩,hki2,M.req_true ⟨by omega,by omega⟩,M.req_true (by rw [hri.1,add_defN];omega),M.req_true (show (fcPrintable.sh ()).safe from trivial)]
     have hpv:(fcPrintable.sh ()).val []=lettersI:=M.val_det
     rw [hpv]
     rw [show shCf (lettersI,((i:Int),(j:Int)),b.getD i (0,0,0),m,())=M.pure (true,((i:Int),(j:Int)),b.getD i (0,0,0),pset m (b.getD i (0,0,0)).1 j (fixI (prow m (b.getD i (0,0,0)).1) (j:Int)),()) from M.det_true (show preCf (lettersI,((i:Int),(j:Int)),b.getD i (0,0,0),m,()) from ⟨rfl,hki,hrok,by show (0:Int)≤(j:Int);omega,by show (j:Int)<(((b.getD i (0,0,0)).2.2:Nat):Int);omega⟩) _,M.bind_pure]
     dsimp only
     have hG:(prow (pset m (b.getD i (0,0,0)).1 j (fixI (prow m (b.getD i (0,0,0)).1) (j:Int))) (b.getD (b.length - 1) (0,0,0)).1)=(mendI (rowsH m b) (i:Int) (j:Int)).getD (b.length - 1) []:=by rw [←hM,rowsH_get (by omega)]
     have hmok:∀ r∈mendI (rowsH m b) (i:Int) (j:Int),r.length=W∧r.all okI=true:=fun r hr=>by
      unfold mendI at hr
      rcases List.mem_or_eq_of_mem_set hr with hr | hr
      ·exact q5 r hr
      ·rw [hr,putI_len,zi,hg i hi]
       exact ⟨hri.1,(putI_ok hrok hfx.1).2.2⟩
     have hml:(mendI (rowsH m b) (i:Int) (j:Int)).length=b.length:=by unfold mendI;rw [List.length_set,hrl]
     obtain ⟨d1',d2'⟩:=deref_rows hp2'
     rw [hM] at d2'
     generalize hQ:pset m (b.getD i (0,0,0)).1 j (fixI (prow m (b.getD i (0,0,0)).1) (j:Int))=Q at hM hp2' hself hprl hG d1' d2' ⊢
     generalize hT:mendI (rowsH m b) (i:Int) (j:Int)=T at hM hG hmok hml d2' ⊢
     have hTl:=hmok (T.getD (b.length - 1) []) (by
      have h2:b.length - 1<T.length:=by rw [hml];omega
      rw [List.getD_eq_getElem?_getD,List.getElem?_eq_getElem h2]
      exact List.getElem_mem h2)
     have hdr:deref (.int .u8) Q (.prod (.slice (.raws (.int .u8))) (.prod (.int .i64) (.int .i64))) (b,(j:Int),(1:Int))=((T,(j:Int),(1:Int)):List (List Int)×Int×Int):=by
      exact congrArg (fun z:List (List Int)=>(z,(j:Int),(1:Int))) d2'
     have hgc:fcColumn.g (T,(j:Int),1)=colI (T.take (T.length - 1)) (j:Int):=rfl
     simp only [hdr,hgc,hl1,hz1,hlk2,hG,zj]
     rw [M.req_true (fun _=>⟨rfl,trivial,trivial⟩),M.req_true (fun _=>⟨⟨rfl,trivial⟩,trivial,trivial⟩),M.req_true (fun _=>⟨⟨rfl,rfl⟩,⟨by omega,by omega⟩,trivial⟩),M.req_true (fun _=>⟨rfl,trivial,trivial⟩),M.req_true (fun _=>⟨rfl,trivial,trivial⟩),
      M.req_true (fun _=>⟨⟨rfl,rfl⟩,⟨by omega,by rw [hlk3];omega⟩,trivial⟩),M.req_true (fun _=>⟨rfl,by rw [hTl.1,add_defN];omega,trivial⟩),M.req_true (fun _=>⟨rfl,trivial,trivial⟩),
      M.req_true (fun _=>⟨⟨rfl,rfl,trivial⟩,⟨⟨d1',trivial,trivial⟩,show preCol T (j:Int) 1 from ⟨by rw [hml];omega,⟨by decide,by rw [hml];omega⟩,by omega,fun r hr=>by have:=(hmok r hr).1;omega⟩⟩,trivial⟩),
      M.req_true (fun _=>⟨⟨rfl,trivial⟩,hchk T j hmok (by omega) hj,trivial⟩),M.req_true (fun _=>⟨⟨rfl,rfl⟩,trivial,trivial⟩),M.req_true ⟨trivial,fun _=>rfl⟩]
     have hcond:(!true||decide ((T.getD (b.length - 1) []).getD (Add.add 0 j) 0≠fcCheckP.g (colI (T.take (T.length - 1)) (j:Int))))=colBadI T j:=by
      unfold colBadI
      rw [hml,add_defN,Nat.zero_add]
      rfl
     erw [hcond]
     by_cases c3:colBadI T j=true
     ·rw [if_pos c3,if_pos c3,if_neg (by decide),hki2,M.req_true ⟨by omega,by rw [hki3];omega⟩,M.req_true (by rw [hprl,add_defN];omega)]
      have ez:Add.add 0 j=j:=Nat.zero_add j
      rw [ez,hself]
     ·rw [if_neg c3,if_neg c3]
      rw [if_pos rfl,←hQ,←hg i hi]
      rfl
  ·rfl
  ·exact Nat.le_refl _
  ·intro c hc o ho
   rw [idxI_len] at hc
   have hw:=wrap64 (n:=(c:Int)+1) (by omega) (by omega)
   have hd:decide ((c:Int)<(W:Int))=true:=decide_eq_true (by omega)
   have hzc:((c:Int)).toNat=c:=rfl
   have hdr:deref (.int .u8) m (.prod (.slice (.raws (.int .u8))) (.prod (.int .i64) (.int .i64))) (b,(c:Int),(1:Int))=((rowsH m b,(c:Int),(1:Int)):List (List Int)×Int×Int):=by
    exact congrArg (fun z:List (List Int)=>(z,(c:Int),(1:Int))) d2
   have hgc:fcColumn.g (rowsH m b,(c:Int),1)=colI ((rowsH m b).take ((rowsH m b).length - 1)) (c:Int):=rfl
   refine ⟨?_,fun o' ho'=>?_⟩
   ·simp only [hd,if_true,Prod.q5,Prod.q6,Prod.q7,ofNat_def,hzc,hl1,hz1,hlk2,hdr,hgc,add_defN,Nat.zero_add]
    rw [M.req_true ⟨by omega,by omega⟩,M.req_true ⟨by omega,by rw [hlk3];omega⟩,M.req_true (by rw [hrlast.1];omega),M.req_true ⟨⟨d1,trivial,trivial⟩,hcolR c hc⟩,M.req_true (by exact hchk (rowsH m b) c q5 (by omega) hc)]
    have e3:decide ((prow m (b.getD (b.length - 1) (0,0,0)).1).getD c 0≠fcCheckP.g (colI ((rowsH m b).take ((rowsH m b).length - 1)) (c:Int)))=colBadI (rowsH m b) c:=by
     unfold colBadI
     rw [←hg (b.length - 1) (by omega),hrl]
    erw [e3]
    rw [idxI_get (by rw [idxI_len];exact hc),hzc]
    cases colBadI (rowsH m b) c with
    | true=>
     rw [if_pos rfl,M.req_true (by unfold lenLe;omega),M.bind_pure,M.go_next]
     dsimp only
     rw [add_def,hw,if_pos rfl]
     rfl
    | false=>
     rw [if_neg (by decide),M.bind_pure,M.go_next]
     dsimp only
     rw [add_def,hw,if_neg (by decide)]
     rfl
   ·simp only [Step.next.injEq] at ho'
    subst ho'
    split<;>(try simp only [List.length_append,List.length_singleton])<;>omega
  ·intro o ho
   rw [idxI_len]
   simp
 ·rfl
 ·exact Nat.le_refl _
 ·intro i hi o ho
  rw [idxI_len] at hi
  have hw:=wrap64 (n:=(i:Int)+1) (by omega) (by omega)
  have hzi:((i:Int)).toNat=i:=rfl
  have z:(0:Int).toNat=0:=rfl
  have hd:decide ((i:Int)<(b.length:Int))=true:=decide_eq_true (by omega)
  have hki:=hk i hi
  have hri:=hrow i hi
  rw [hg i hi] at hri
  have hki3:=hki.2.2
  rw [hri.1] at hki3
  have hki2:=hki.2.1
  have hwW:=wrap64 (n:=(W:Int) - 1) (by omega) (by omega)
  have hW1:((W:Int) - 1).toNat=W - 1:=by omega
  obtain ⟨t1,t2⟩:=deref_row hki (k:=W - 1) (by omega)
  refine ⟨?_,fun o' ho'=>?_⟩
  ·simp only [hd,if_true,Prod.q5,Prod.q6,Prod.q7,ofNat_def,hzi,z,hki2,hki3,hwW,hW1,add_defN,Nat.zero_add,Nat.sub_zero,t2]
   rw [M.req_true ⟨by omega,by omega⟩,M.req_true ⟨by omega,by omega⟩,M.req_true (by rw [hri.1];omega),M.req_true ⟨Int.le_refl _,by omega,by omega⟩,M.req_true ⟨t1,⟨by show ((prow m _).take (W - 1)).length<65536;simp;omega,all_takeI hri.2 _⟩⟩]
   have e3:decide ((prow m (b.getD i (0,0,0)).1).getD (W - 1) 0≠fcCheckP.g ((prow m (b.getD i (0,0,0)).1).take (W - 1)))=rowBadI ((rowsH m b).getD i []):=by
    unfold rowBadI
    rw [hg i hi,hri.1]
   rw [e3,idxI_get (by rw [idxI_len];exact hi),hzi]
   cases rowBadI ((rowsH m b).getD i []) with
   | true=>
    rw [if_pos rfl,M.req_true (by unfold lenLe;omega),M.bind_pure,M.go_next]
    dsimp only
    rw [add_def,hw,if_pos rfl]
    rfl
   | false=>
    rw [if_neg (by decide),M.bind_pure,M.go_next]
    dsimp only
    rw [add_def,hw,if_neg (by decide)]
    rfl
  ·simp only [Step.next.injEq] at ho'
   subst ho'
   split<;>(try simp only [List.length_append,List.length_singleton])<;>omega
 ·intro o ho
  rw [idxI_len]
  simp
end Go.Fer
namespace Go.Fer
open M (Step)
set_option linter.unusedVariables false
set_option linter.unusedSimpArgs false
def cut2:List UInt8→Option (List UInt8×List UInt8)
 | []=>none
 | b::l=>if b=10∧l.head?=some 10 then some ([],l.drop 1) else match cut2 l with
  | none=>none
  | some p=>some (b::p.1,p.2)
def linesOf:List UInt8→List (List UInt8)
 | []=>[[]]
 | b::l=>if b=10 then []::linesOf l else match linesOf l with
  | []=>[[b]]
  | x::xs=>(b::x)::xs
theorem linesOf_ne:∀ (t:List UInt8),linesOf t≠[]
 | []=>by simp [linesOf]
 | b::l=>by
  unfold linesOf
  split
  ·simp
  ·split<;>simp
theorem linesOf_ten (l:List UInt8):linesOf (10::l)=[]::linesOf l:=by
 rw [linesOf,if_pos rfl]
theorem linesOf_cons {b:UInt8} (hb:b≠10) (l:List UInt8):∃ x xs,linesOf l=x::xs∧linesOf (b::l)=(b::x)::xs:=by
 cases h:linesOf l with
 | nil=>exact absurd h (linesOf_ne l)
 | cons x xs=>exact ⟨x,xs,rfl,by rw [linesOf,if_neg hb,h]⟩
theorem linesOf_len:∀ (t:List UInt8),(linesOf t).length≤t.length+1∧∀ x∈linesOf t,x.length≤t.length
 | []=>by simp [linesOf]
 | b::l=>by
  obtain ⟨h1,h2⟩:=linesOf_len l
  by_cases hb:b=10
  ·rw [linesOf,if_pos hb]
   refine ⟨by simp only [List.length_cons];omega,fun x hx=>?_⟩
   rcases List.mem_cons.1 hx with rfl | hx
   ·exact Nat.zero_le _
   ·have:=h2 x hx
    simp only [List.length_cons];omega
  ·obtain ⟨x,xs,e1,e2⟩:=linesOf_cons hb l
   rw [e2]
   rw [e1] at h1 h2
   refine ⟨by simp only [List.length_cons] at h1 ⊢;omega,fun y hy=>?_⟩
   rcases List.mem_cons.1 hy with rfl | hy
   ·have:=h2 x (by simp)
    simp only [List.length_cons];omega
   ·have:=h2 y (List.mem_cons_of_mem _ hy)
    simp only [List.length_cons];omega
theorem cut2_some:∀ (f t r:List UInt8),cut2 f=some (t,r)→f=t++10::10::r∧∀ x∈(linesOf t).tail,x≠[]
 | [],t,r,h=>by simp [cut2] at h
 | b::l,t,r,h=>by
  unfold cut2 at h
  by_cases hc:b=10∧l.head?=some 10
  ·rw [if_pos hc] at h
   obtain ⟨rfl,hl⟩:=hc
   cases l with
   | nil=>cases hl
   | cons c l=>
    simp only [List.head?_cons,Option.some.injEq] at hl
    subst hl
    simp only [Option.some.injEq,Prod.mk.injEq,List.drop_one,List.tail_cons] at h
    obtain ⟨rfl,rfl⟩:=h
    exact ⟨rfl,by simp [linesOf]⟩
  ·rw [if_neg hc] at h
   cases hq:cut2 l with
   | none=>rw [hq] at h;cases h
   | some p=>
    obtain ⟨t',r'⟩:=p
    rw [hq] at h
    simp only [Option.some.injEq,Prod.mk.injEq] at h
    obtain ⟨rfl,rfl⟩:=h
    obtain ⟨e,ht⟩:=cut2_some l t' r' hq
    refine ⟨by rw [e];rfl,?_⟩
    by_cases hb:b=10
    ·subst hb
     rw [linesOf_ten,List.tail_cons]
     have hl:l.head?≠some 10:=fun k=>hc ⟨rfl,k⟩
     cases t' with
     | nil=>rw [e] at hl;exact absurd rfl hl
     | cons c t''=>
      have hcn:c≠10:=fun k=>hl (by rw [e,k];rfl)
      obtain ⟨x,xs,e1,e2⟩:=linesOf_cons hcn t''
      rw [e2] at ht ⊢
      intro y hy
      rcases List.mem_cons.1 hy with rfl | hy
      ·simp
      ·exact ht y hy
    ·obtain ⟨x,xs,e1,e2⟩:=linesOf_cons hb t'
     rw [e2]
     rw [e1] at ht
     exact ht
theorem cut2_none:∀ (f:List UInt8),cut2 f=none→(∀ l,f=10::l→l.head?≠some 10)∧∀ b l,f=b::l→cut2 l=none
 | [],_=>⟨fun l h=>(by cases h),fun b l h=>(by cases h)⟩
 | b::l,h=>by
  unfold cut2 at h
  by_cases hc:b=10∧l.head?=some 10
  ·rw [if_pos hc] at h;cases h
  ·rw [if_neg hc] at h
   refine ⟨fun l' e=>?_,fun b' l' e=>?_⟩
   ·injection e with e1 e2
    subst e2
    exact fun k=>hc ⟨e1,k⟩
   ·injection e with e1 e2
    subst e2
    cases hq:cut2 l with
    | none=>rfl
    | some p=>rw [hq] at h;cases h
theorem blkG_cons (b:UInt8) (f:List UInt8) (s:BSt):blkG (b::f) s=match blkF b s with | .next s'=>blkG f s' | .done r=>r:=by unfold blkG;rw [foldS];cases blkF b s<;>rfl
theorem blkF_byte {b:UInt8} (h:b≠10) (s:BSt):blkF b s=.next (s.1++[b],s.2.1,s.2.2):=if_pos h
theorem blkF_end {s:BSt} (h:s.1≠[]):blkF 10 s=.next ([],s.2.1,s.2.2++[s.1]):=by
 unfold blkF
 rw [if_neg (fun k=>k rfl),if_pos h]
theorem blkF_block (O L:List _):blkF 10 (([],O,L):BSt)=if isBlockV L=true then .next ([],O++[L],[]) else .done (.done (false,[],())):=by
 unfold blkF
 rw [if_neg (fun k=>k rfl),if_neg (fun k=>k rfl)]
theorem blk_none (O:List (List (List UInt8))):∀ (f cur:List UInt8) (L:List (List UInt8)),cut2 f=none→(cur=[]→L≠[]∧f.head?≠some 10)→(blkE (blkG f (cur,O,L))).1=false
 | [],cur,L,_,hc=>by
  show (decide (cur=[])&&decide (L.length=0))=false
  by_cases h:cur=[]
  ·have:=(hc h).1
   rw [decide_eq_false (fun k=>this (List.length_eq_zero_iff.1 k)),Bool.and_false]
  ·rw [decide_eq_false h,Bool.false_and]
 | b::f,cur,L,hn,hc=>by
  obtain ⟨h1,h20⟩:=cut2_none _ hn
  have h2:=h20 b f rfl
  rw [blkG_cons]
  by_cases hb:b=10
  ·subst hb
   have hcur:cur≠[]:=fun k=>(hc k).2 rfl
   rw [blkF_end hcur]
   exact blk_none O f [] (L++[cur]) h2 fun _=>⟨by simp,h1 f rfl⟩
  ·rw [blkF_byte hb]
   exact blk_none O f (cur++[b]) L h2 fun k=>by simp at k
theorem blk_noCut {O:List (List (List UInt8))} {f:List UInt8} (h0:f≠[]) (h:cut2 f=none):(blkE (blkG f ([],O,[]))).1=false:=by
 cases f with
 | nil=>exact absurd rfl h0
 | cons b f=>
  rw [blkG_cons]
  by_cases hb:b=10
  ·subst hb
   rw [blkF_block]
   rfl
  ·rw [blkF_byte hb]
   exact blk_none O f ([]++[b]) [] ((cut2_none _ h).2 b f rfl) fun k=>by simp at k
def linesP (cur t:List UInt8):List (List UInt8):=match linesOf t with
 | []=>[cur]
 | x::xs=>(cur++x)::xs
theorem linesP_nil (t:List UInt8):linesP [] t=linesOf t:=by
 unfold linesP
 cases h:linesOf t with
 | nil=>exact absurd h (linesOf_ne t)
 | cons x xs=>rfl
theorem blk_lines (O:List (List (List UInt8))) (rest:List UInt8):∀ (t cur:List UInt8) (L:List (List UInt8)),(∀ x∈linesP cur t,x≠[])→blkG (t++10::rest) (cur,O,L)=blkG rest ([],O,L++linesP cur t)
 | [],cur,L,h=>by
  have e:linesP cur []=[cur]:=by unfold linesP linesOf;simp
  rw [e] at h ⊢
  show blkG (10::rest) (cur,O,L)=_
  rw [blkG_cons,blkF_end (h cur (by simp))]
 | b::t,cur,L,h=>by
  show blkG (b::(t++10::rest)) (cur,O,L)=_
  rw [blkG_cons]
  by_cases hb:b=10
  ·subst hb
   have e:linesP cur (10::t)=cur::linesOf t:=by unfold linesP;rw [linesOf_ten];simp
   rw [e] at h ⊢
   rw [blkF_end (h cur (by simp))]
   have ih:=blk_lines O rest t [] (L++[cur]) (by rw [linesP_nil];exact fun x hx=>h x (List.mem_cons_of_mem _ hx))
   rw [linesP_nil] at ih
   refine ih.trans ?_
   simp
  ·obtain ⟨x,xs,e1,e2⟩:=linesOf_cons hb t
   have e:linesP cur (b::t)=linesP (cur++[b]) t:=by unfold linesP;rw [e2,e1];simp
   rw [e] at h ⊢
   rw [blkF_byte hb]
   exact blk_lines O rest t (cur++[b]) L h
theorem blk_cut {O:List (List (List UInt8))} {f t r:List UInt8} (h:cut2 f=some (t,r)):blkE (blkG f ([],O,[]))=if isBlockV (linesOf t)=true then blkE (blkG r ([],O++[linesOf t],[])) else (false,[]):=by
 obtain ⟨e,ht⟩:=cut2_some f t r h
 cases hl:linesOf t with
 | nil=>exact absurd hl (linesOf_ne t)
 | cons x xs=>
  rw [hl] at ht
  by_cases hx:x=[]
  ·subst hx
   have hb:isBlockV ([]::xs)=false:=by
    unfold isBlockV
    rw [List.all_cons]
    have:lineBad (List.getD ([]::xs) 0 []).length []=true:=by unfold lineBad;simp
    rw [this]
    simp
   rw [hb,if_neg (by decide),e]
   have h10:∃ g,t++10::10::r=10::g:=by
    cases t with
    | nil=>exact ⟨_,rfl⟩
    | cons b t=>
     by_cases hb:b=10
     ·exact ⟨t++10::10::r,by rw [hb];rfl⟩
     ·obtain ⟨y,ys,e1,e2⟩:=linesOf_cons hb t
      rw [e2] at hl
      injection hl with hl1 _
      cases hl1
   obtain ⟨g,hg⟩:=h10
   rw [hg,blkG_cons,blkF_block]
   rfl
  ·rw [e,blk_lines O (10::r) t [] [] (by
    rw [linesP_nil,hl]
    intro y hy
    rcases List.mem_cons.1 hy with rfl | hy
    ·exact hx
    ·exact ht y hy),linesP_nil,hl,blkG_cons,List.nil_append,blkF_block]
   by_cases hb:isBlockV (x::xs)=true
   ·rw [if_pos hb,if_pos hb]
   ·rw [if_neg hb,if_neg hb]
    rfl
theorem lineBad_iff {n:Nat} {r:List UInt8}:lineBad n r=true↔r.length≠n∨r.length<2∨r.length > 62∨r.all okB=false:=by
 unfold lineBad
 rw [Bool.or_eq_true,Bool.or_eq_true,Bool.or_eq_true,decide_eq_true_iff,decide_eq_true_iff,decide_eq_true_iff,Bool.not_eq_true',or_assoc,or_assoc]
theorem isBlock_any {L:List (List UInt8)} (h:L≠[]):(decide (L.length<2)||decide (L.length > 9)||decide ((L.getD 0 []).length<2)||decide ((L.getD 0 []).length > 62)||L.any fun r=>decide (r.length≠(L.getD 0 []).length)||!r.all okB)=!isBlockV L:=by
 have h0:0<L.length:=List.length_pos_iff.2 h
 have hm:L.getD 0 []∈L:=by rw [List.getD_eq_getElem?_getD,List.getElem?_eq_getElem h0];exact List.getElem_mem h0
 have hiB:isBlockV L=true↔2≤L.length∧L.length≤9∧∀ r∈L,¬lineBad (L.getD 0 []).length r=true:=by
  unfold isBlockV
  rw [Bool.and_eq_true,Bool.and_eq_true,decide_eq_true_iff,decide_eq_true_iff,List.all_eq_true,and_assoc]
  simp only [Bool.not_eq_true',Bool.not_eq_true]
 generalize hw:(L.getD 0 []).length=w at hiB
 have hl:(decide (L.length<2)||decide (L.length > 9)||decide (w<2)||decide (w > 62)||L.any fun r=>decide (r.length≠w)||!r.all okB)=true↔¬isBlockV L=true:=by
  rw [hiB]
  simp only [Bool.or_eq_true,decide_eq_true_iff,List.any_eq_true,Bool.not_eq_true']
  constructor
  ·rintro ((((h1 | h1) | h1) | h1) | ⟨r,hr,h1⟩) ⟨k1,k2,k3⟩
   ·omega
   ·omega
   ·exact k3 _ hm (lineBad_iff.2 (.inr (.inl (by omega))))
   ·exact k3 _ hm (lineBad_iff.2 (.inr (.inr (.inl (by omega)))))
   ·refine k3 r hr (lineBad_iff.2 ?_)
    rcases h1 with h1 | h1
    ·exact .inl h1
    ·exact .inr (.inr (.inr h1))
  ·intro k
   by_cases k1:2≤L.length
   ·by_cases k2:L.length≤9
    ·by_cases k3:∀ r∈L,¬lineBad w r=true
     ·exact absurd ⟨k1,k2,k3⟩ k
     ·obtain ⟨r,hr⟩:=Classical.not_forall.1 k3
      obtain ⟨hr,hb⟩:=Classical.not_imp.1 hr
      have hb:=Classical.not_not.1 hb
      by_cases e:r.length=w
      ·rcases lineBad_iff.1 hb with h1 | h1 | h1 | h1
       ·exact absurd e h1
       ·exact .inl (.inl (.inr (by omega)))
       ·exact .inl (.inr (by omega))
       ·exact .inr ⟨r,hr,.inr h1⟩
      ·exact .inr ⟨r,hr,.inl e⟩
    ·exact .inl (.inl (.inl (.inr (by omega))))
   ·exact .inl (.inl (.inl (.inl (by omega))))
 rw [Bool.eq_iff_iff,hl]
 simp
end Go.Fer
namespace Go.Fer
open M (Step)
set_option linter.unusedVariables false
set_option linter.unusedSimpArgs false
structure PoolB (m:Pool) (out:List (List Hd)) (O:List (List (List UInt8))):Prop where
 nd:(m.map (·.1)).Nodup
 ok:∀ b∈out,∀ h∈b,hOk m h
 ids:(out.flatten.map (·.1)).Nodup
 dat:out.map (rowsH m)=O.map (List.map numsOf)
structure Kept (m0 m:Pool) (out:List (List Hd)):Prop where
 old:∀ id∈m0.map (·.1),prow m id=prow m0 id∧id∈m.map (·.1)
 new:∀ id∈out.flatten.map (·.1),id ∉ m0.map (·.1)
theorem any_key {m:Pool} {id:Nat}:m.any (fun p=>p.1 == id)=true↔id∈m.map (·.1):=by
 rw [List.any_eq_true,List.mem_map]
 constructor
 ·rintro ⟨p,hp,e⟩;exact ⟨p,hp,by simpa using e⟩
 ·rintro ⟨p,hp,e⟩;exact ⟨p,hp,by simpa using e⟩
theorem prow_cons_other {m:Pool} {id j:Nat} {r:List Int} (h:j≠id):prow ((id,r)::m) j=prow m j:=by
 unfold prow
 rw [List.find?_cons_of_neg (by simpa using fun e=>h e.symm)]
theorem prow_cons_same {m:Pool} {id:Nat} {r:List Int}:prow ((id,r)::m) id=r:=by
 unfold prow
 rw [List.find?_cons_of_pos (by simp)]
theorem hOk.key {m:Pool} {h:Hd} (k:hOk m h):h.1∈m.map (·.1):=any_key.1 k.1
theorem PoolB.start {m:Pool} {out O} (h:PoolB m out O):PoolB m (out++[[]]) (O++[[]]) where
 nd:=h.nd
 ok:=fun b hb k hk=>by
  rcases List.mem_append.1 hb with hb | hb
  ·exact h.ok b hb k hk
  ·rw [List.mem_singleton] at hb;subst hb;cases hk
 ids:=by rw [List.flatten_append];simpa using h.ids
 dat:=by rw [List.map_append,List.map_append,h.dat];rfl
theorem rowsH_cons {m:Pool} {id:Nat} {r:List Int} {b:List Hd} (h:∀ k∈b,hOk m k) (hn:id ∉ m.map (·.1)):rowsH ((id,r)::m) b=rowsH m b:=by
 unfold rowsH
 refine List.map_congr_left fun k hk=>prow_cons_other fun e=>hn ?_
 rw [←e]
 exact (h k hk).key
theorem hOk_cons {m:Pool} {id:Nat} {r:List Int} {k:Hd} (h:hOk m k) (hn:id ∉ m.map (·.1)):hOk ((id,r)::m) k:=by
 obtain ⟨h1,h2,h3⟩:=h
 refine ⟨any_key.2 (List.mem_cons_of_mem _ (any_key.1 h1)),h2,?_⟩
 rw [h3,prow_cons_other]
 intro e
 exact hn (by rw [←e];exact any_key.1 h1)
theorem flatten_push {α:Type} (out:List (List α)) (b:List α) (x:α):(out++[b++[x]]).flatten=(out++[b]).flatten++[x]:=by simp
theorem PoolB.push {m:Pool} {out b O L} (h:PoolB m (out++[b]) (O++[L])) {id:Nat} (hn:id ∉ m.map (·.1)) (t:List UInt8) :
  PoolB ((id,numsOf t)::m) (out++[b++[(id,0,t.length)]]) (O++[L++[t]]) where
 nd:=by
  rw [List.map_cons,List.nodup_cons]
  exact ⟨hn,h.nd⟩
 ok:=fun c hc k hk=>by
  rcases List.mem_append.1 hc with hc | hc
  ·exact hOk_cons (h.ok c (List.mem_append_left _ hc) k hk) hn
  ·rw [List.mem_singleton] at hc
   subst hc
   rcases List.mem_append.1 hk with hk | hk
   ·exact hOk_cons (h.ok b (by simp) k hk) hn
   ·rw [List.mem_singleton] at hk
    subst hk
    exact ⟨any_key.2 (by simp),rfl,by rw [prow_cons_same,numsOf_len]⟩
 ids:=by
  rw [flatten_push,List.map_append,List.nodup_append]
  refine ⟨h.ids,by simp,fun a ha c hc=>?_⟩
  rw [List.map_cons,List.map_nil,List.mem_singleton] at hc
  subst hc
  intro e
  subst e
  obtain ⟨k,hk,e⟩:=List.mem_map.1 ha
  obtain ⟨c,hc,hkc⟩:=List.mem_flatten.1 hk
  exact hn (by rw [←e];exact (h.ok c hc k hkc).key)
 dat:=by
  have hd:=h.dat
  rw [List.map_append,List.map_append] at hd
  have hl:(out.map (rowsH m)).length=(O.map (List.map numsOf)).length:=by
   have:=congrArg List.length hd
   simpa using this
  obtain ⟨d1,d2⟩:=List.append_inj hd hl
  rw [List.map_append,List.map_append,←d1]
  congr 1
  ·exact List.map_congr_left fun c hc=>rowsH_cons (fun k hk=>h.ok c (List.mem_append_left _ hc) k hk) hn
  ·simp only [List.map_cons,List.map_nil,List.cons.injEq,and_true] at d2 ⊢
   rw [List.map_append,←d2]
   have e:rowsH ((id,numsOf t)::m) (b++[(id,0,t.length)])=rowsH ((id,numsOf t)::m) b++[prow ((id,numsOf t)::m) id]:=by unfold rowsH;rw [List.map_append];rfl
   rw [e,prow_cons_same,rowsH_cons (fun k hk=>h.ok b (by simp) k hk) hn]
   rfl
theorem Kept.start {m0 m:Pool} {out} (h:Kept m0 m out):Kept m0 m (out++[[]]):=⟨h.old,by rw [List.flatten_append];simpa using h.new⟩
theorem Kept.push {m0 m:Pool} {out b} (h:Kept m0 m (out++[b])) {id:Nat} (hn:id ∉ m.map (·.1)) (r:List Int) (n:Nat):Kept m0 ((id,r)::m) (out++[b++[(id,0,n)]]) where
 old:=fun j hj=>by
  obtain ⟨h1,h2⟩:=h.old j hj
  have:j≠id:=fun e=>hn (by rw [←e];exact h2)
  exact ⟨(prow_cons_other this).trans h1,List.mem_cons_of_mem _ h2⟩
 new:=fun j hj=>by
  rw [flatten_push,List.map_append] at hj
  rcases List.mem_append.1 hj with hj | hj
  ·exact h.new j hj
  ·rw [List.map_cons,List.map_nil,List.mem_singleton] at hj
   subst hj
   exact fun k=>hn (h.old _ k).2
theorem Kept.drop {m0 m:Pool} {out} (h:Kept m0 m out):Kept m0 m []:=⟨h.old,by simp⟩
theorem PoolB.drop {m:Pool} {out O} (h:PoolB m out O):PoolB m [] []:=⟨h.nd,by simp,by simp,rfl⟩
theorem fresh_id (l:List Nat):∃ id,¬List.Mem id l:=by
 refine ⟨l.foldl (fun a b=>max a b) 0+1,fun h=>?_⟩
 have key:∀ (l:List Nat) (n:Nat),n≤l.foldl (fun a b=>max a b) n∧∀ x∈l,x≤l.foldl (fun a b=>max a b) n:=by
  intro l
  induction l with
  | nil=>intro n;exact ⟨Nat.le_refl _,by simp⟩
  | cons a l ih=>
   intro n
   obtain ⟨h1,h2⟩:=ih (max n a)
   refine ⟨by rw [List.foldl_cons];omega,fun x hx=>?_⟩
   rcases List.mem_cons.1 hx with rfl | hx
   ·rw [List.foldl_cons];omega
   ·exact h2 x hx
 have:=(key l 0).2 _ h
 omega
theorem M.ret_any {α:Type} {q p:α→Prop}:M.Ret (M.any q) p↔(∃ x,q x)∧∀ x,q x→p x:=Iff.rfl
abbrev fcCutP:FC:=⟨.prod .str .str,.prod .str (.prod .str .bool),fun x=>x.2=[10,10]∧List.length x.1<4294967281,fun x=>match cut2 x.1 with | some p=>(p.1,p.2,true) | none=>(x.1,[],false)⟩
abbrev fcSplitP:FC:=⟨.prod .str .str,.slice .str,fun x=>x.2=[10]∧List.length x.1<4294967281,fun x=>linesOf x.1⟩
def oddV (r:List Int) (w:Option Int):Bool:=decide ((r.length:Int)≠w.getD 0)||!(bytesOf r).all okB
abbrev fcOdd:FC:=⟨.prod (.slice (.int .u8)) (.ptr (.int .i64)),.bool,fun x=>∃ w,x.2=some w,fun x=>oddV x.1 x.2⟩
theorem sOdd (x):M.le (S_files_cut_c1 fcIsT.sh x) (fcOdd.sh x):=M.le_det fun _=>by
 change List Int×Option Int at x
 obtain ⟨r,w⟩:=x
 unfold S_files_cut_c1
 show _=M.pure (oddV r w)
 simp only [FC.sh,M.det_True,M.gdo_pure,M.bind_pure,ofNat_def]
 unfold oddV
 cases decide ((r.length:Int)≠w.getD 0)<;>rfl
abbrev CtT:Type:=List UInt8×Pool×Unit
abbrev CtR:Type:=Bool×List (List Hd)×Pool×Unit
def postCut (x:CtT) (y:CtR):Prop:=y.1=(blocksV x.1).1∧PoolB y.2.2.1 y.2.1 (if (blocksV x.1).1=true then (blocksV x.1).2 else [])∧Kept x.2.1 y.2.2.1 y.2.1
def shCut (x:CtT):M CtR:=⟨x.1.length<65536∧(x.2.1.map (·.1)).Nodup,postCut x⟩
theorem sCut (x):M.le (S_io_cut fcCutP.sh fcSplitP.sh (fcContainsFunc (.slice (.int .u8))).pre (fcContainsFunc (.slice (.int .u8))).g fcOdd.sh x) (shCut x):=fun h=>by
 obtain ⟨f,m0,u⟩:=x
 obtain ⟨h1,h2⟩:=h
 change f.length<65536 at h1
 change (m0.map (·.1)).Nodup at h2
 show M.Ret _ (postCut (f,m0,u))
 unfold S_io_cut
 dsimp only
 rw [M.ret_bind]
 refine M.ret_loop (fun s=>∃ O,PoolB s.2.2.1 s.2.1 O∧Kept m0 s.2.2.1 s.2.1∧blkE (blkG s.1 ([],O,[]))=blocksV f∧s.2.1.length+s.1.length≤f.length) (fun s=>s.1.length) ?_ _ ?_
 ·rintro ⟨file,out,m,u⟩ ⟨O,g1,g2,g3,g4⟩
  change PoolB m out O at g1
  change Kept m0 m out at g2
  change blkE (blkG file ([],O,[]))=blocksV f at g3
  change out.length+file.length≤f.length at g4
  dsimp only
  by_cases hf:file=[]
  ·subst hf
   rw [if_neg (by simp),M.bind_pure]
   refine M.ret_pure.2 ?_
   show M.Ret (M.pure (true,out,m,())) _
   refine M.ret_pure.2 ?_
   have e:blocksV f=(true,O):=g3.symm
   refine ⟨by rw [e],?_,g2⟩
   show PoolB m out (if (blocksV f).1=true then (blocksV f).2 else [])
   rw [e]
   exact g1
  ·rw [if_pos (decide_eq_true hf),show fcCutP.sh (file,[10,10])=M.pure (match cut2 file with | some p=>(p.1,p.2,true) | none=>(file,[],false)) from M.det_true (show ([10,10]:List UInt8)=[10,10]∧file.length<4294967281 from ⟨rfl,by omega⟩) _,M.bind_pure]
   cases hc:cut2 file with
   | none=>
    have hb:(blocksV f).1=false:=by rw [←g3];exact blk_noCut hf hc
    dsimp only
    rw [if_pos (by rfl),M.bind_pure,M.bind_pure]
    refine M.ret_pure.2 ?_
    show M.Ret (M.pure (false,[],m,())) _
    refine M.ret_pure.2 ⟨hb.symm,?_,g2.drop⟩
    show PoolB m [] (if (blocksV f).1=true then (blocksV f).2 else [])
    rw [hb]
    exact g1.drop
   | some p=>
    obtain ⟨t,r⟩:=p
    have hbc:=blk_cut (O:=O) hc
    rw [g3] at hbc
    obtain ⟨hfe,_⟩:=cut2_some _ _ _ hc
    have hfl:file.length=t.length+2+r.length:=by rw [hfe];simp;omega
    obtain ⟨l1,l2⟩:=linesOf_len t
    have hne:=linesOf_ne t
    dsimp only
    rw [if_neg (by decide),show fcSplitP.sh (t,[10])=M.pure (linesOf t) from M.det_true (show ([10]:List UInt8)=[10]∧t.length<4294967281 from ⟨rfl,by omega⟩) _,M.bind_pure]
    generalize hL:linesOf t=L at hbc l1 l2 hne
    rw [M.ret_bind]
    refine M.ret_loopN L.length (fun i s=>s.1=r∧s.2.1=L∧s.2.2.1=(L.length:Int)∧s.2.2.2.1=(i:Int)∧s.2.2.2.2.1=out∧s.2.2.2.2.2.1.length=i∧PoolB s.2.2.2.2.2.2.1 (out++[s.2.2.2.2.2.1]) (O++[L.take i])∧Kept m0 s.2.2.2.2.2.2.1 (out++[s.2.2.2.2.2.1])) ⟨rfl,rfl,rfl,rfl,rfl,rfl,g1.start,g2.start⟩ ?_ ?_
    ·rintro i hi ⟨s1,s2,s3,s4,s5,b,m',u'⟩ ⟨e1,e2,e3,e4,e5,e6,k1,k2⟩
     change s1=r at e1
     change s2=L at e2
     change s3=_ at e3
     change s4=_ at e4
     change s5=out at e5
     change b.length=i at e6
     change PoolB m' (out++[b]) _ at k1
     change Kept m0 m' (out++[b]) at k2
     subst e1 e2 e3 e4 e5
     have hw:=wrap64 (n:=(i:Int)+1) (by omega) (by omega)
     have hl:=l2 _ (List.getElem_mem hi)
     simp only [ofNat_def,lt_len hi,if_true,getD_nat hi,in_len hi,M.req_True,Prod.q5,Prod.q6,add_def,add_defN,hw]
     rw [M.ret_bind,M.ret_req]
     refine ⟨by unfold lenLe;omega,M.ret_any.2 ⟨fresh_id _,fun id hid=>?_⟩⟩
     have hid:id ∉ m'.map (·.1):=hid
     rw [M.ret_req]
     refine ⟨by unfold lenLe;omega,M.ret_pure.2 ?_⟩
     refine ⟨rfl,rfl,rfl,?_,rfl,by show (b++[_]).length=i+1;simp;omega,?_,k2.push hid _ _⟩
     ·show (i:Int)+1=((i+1:Nat):Int);omega
     ·have:=k1.push hid s2[i]
      rw [List.take_add_one,List.getElem?_eq_getElem hi]
      exact this
    ·rintro ⟨s1,s2,s3,s4,s5,b,m',u'⟩ ⟨e1,e2,e3,e4,e5,e6,k1,k2⟩
     change s1=r at e1
     change s2=L at e2
     change s3=_ at e3
     change s4=_ at e4
     change s5=out at e5
     change b.length=L.length at e6
     change PoolB m' (out++[b]) _ at k1
     change Kept m0 m' (out++[b]) at k2
     subst e1 e2 e3 e4 e5
     rw [List.take_length] at k1
     dsimp only
     rw [if_neg (by simp),M.bind_pure]
     refine M.ret_pure.2 ?_
     show M.Ret (M.req _ _) _
     simp only [Prod.q5,Prod.q6,ofNat_def,add_defN]
     have hL0:0<s2.length:=List.length_pos_iff.2 hne
     have hb0:0<b.length:=by omega
     have hdat:rowsH m' b=s2.map numsOf:=by
      have hd:=k1.dat
      rw [List.map_append,List.map_append] at hd
      have:=(List.append_inj' hd rfl).2
      simpa using this
     have hok:∀ h∈b,hOk m' h:=fun k hk=>k1.ok b (by simp) k hk
     obtain ⟨d1,d2⟩:=deref_rows hok
     have hw0:((b.getD 0 (0,0,0)).2.2:Nat)=(s2.getD 0 []).length:=by
      rw [(hok _ (getD_memH hb0)).2.2,←rowsH_get hb0,hdat]
      rw [List.getD_eq_getElem?_getD,List.getD_eq_getElem?_getD,List.getElem?_map,List.getElem?_eq_getElem hL0]
      exact numsOf_len _
     have z:(0:Int).toNat=0:=rfl
     have hany:=isBlock_any hne
     generalize hw:(s2.getD 0 []).length=w at hw0 hany
     have hb0':((b.length:Nat):Int)=(s2.length:Int):=by omega
     have c1:decide ((b.length:Int)<2)=decide (s2.length<2):=decide_eq_decide.2 (by omega)
     have c2:decide ((b.length:Int) > 9)=decide (s2.length > 9):=decide_eq_decide.2 (by omega)
     have c3:decide ((w:Int)<2)=decide (w<2):=decide_eq_decide.2 (by omega)
     have c4:decide ((w:Int) > 62)=decide (w > 62):=decide_eq_decide.2 (by omega)
     have hodd:∀ y,fcOdd.sh (y,some ((w:Nat):Int))=M.pure (oddV y (some ((w:Nat):Int))):=fun y=>M.det_true ⟨_,rfl⟩ _
     have hdr:deref (.int .u8) m' (.prod (.slice (.raws (.int .u8))) (.fn (.slice (.int .u8)) .bool)) (b,fun x=>fcOdd.sh (x,some ((w:Nat):Int)))=((s2.map numsOf,fun x=>fcOdd.sh (x,some ((w:Nat):Int))):List (List Int)×(List Int→M Bool)):=by
      rw [←hdat]
      exact congrArg (fun z:List (List Int)=>((z,fun x=>fcOdd.sh (x,some ((w:Nat):Int))):List (List Int)×(List Int→M Bool))) d2
     have hgv:((s2.map numsOf).any fun y=>(fcOdd.sh (y,some ((w:Nat):Int))).val false)=s2.any fun r=>decide (r.length≠w)||!r.all okB:=by
      rw [List.any_map]
      congr 1
      funext r
      show (fcOdd.sh (numsOf r,some ((w:Nat):Int))).val false=_
      rw [hodd,M.val_pure]
      unfold oddV
      rw [bytesOf_numsOf,numsOf_len]
      congr 1
      exact decide_eq_decide.2 (by show (r.length:Int)≠(w:Int)↔r.length≠w;omega)
     simp only [z,hw0,c1,c2,c3,c4]
     erw [hdr]
     dsimp only
     erw [hgv]
     rw [M.ret_req]
     refine ⟨⟨Int.le_refl _,by omega⟩,?_⟩
     rw [M.ret_req]
     refine ⟨fun e=>⟨⟨e,e,trivial⟩,⟨⟨d1,trivial⟩,⟨by show (s2.map numsOf).length<2 ^ 63;simp;omega,fun y _=>⟨_,hodd y⟩⟩⟩,trivial⟩,?_⟩
     rw [hany]
     cases hB:isBlockV s2 with
     | false=>
      rw [hB] at hbc
      rw [if_pos (show (!false)=true from rfl),M.bind_pure,M.bind_pure]
      refine M.ret_pure.2 ?_
      show M.Ret (M.pure (false,[],m',())) _
      refine M.ret_pure.2 ⟨?_,?_,k2.drop⟩
      ·show false=(blocksV f).1;rw [hbc];rfl
      ·show PoolB m' [] (if (blocksV f).1=true then (blocksV f).2 else [])
       rw [hbc]
       exact k1.drop
     | true=>
      rw [hB,if_pos rfl] at hbc
      rw [if_neg (by decide),M.ret_req]
      refine ⟨by unfold lenLe;omega,M.ret_pure.2 ?_⟩
      exact ⟨⟨O++[s2],k1,k2,hbc.symm,by show (s5++[b]).length+s1.length≤_;simp;omega⟩,by show s1.length<file.length;omega⟩
 ·exact ⟨[],⟨h2,by simp,by simp,rfl⟩,⟨fun id hid=>⟨rfl,hid⟩,by simp⟩,rfl,by simp⟩
end Go.Fer
namespace Go.Fer
open M (Step)
set_option linter.unusedVariables false
set_option linter.unusedSimpArgs false
abbrev numsB (l:List (List UInt8)):List (List Int):=l.map numsOf
theorem numsOf_take (r:List UInt8) (k:Nat):numsOf (r.take k)=(numsOf r).take k:=by unfold numsOf;rw [List.map_take]
theorem shaped.nums {W:Nat} {l:List (List UInt8)} (h:shaped W l):shapedI W (numsB l):=by
 obtain ⟨h1,h2,h3,h4,h5⟩:=h
 refine ⟨by simpa using h1,by simpa using h2,h3,h4,fun r hr=>?_⟩
 obtain ⟨t,ht,rfl⟩:=List.mem_map.1 hr
 rw [numsOf_len,numsOf_okI]
 exact h5 t ht
theorem rowBad_nums {W:Nat} {r:List UInt8} (h:r.length=W) (ho:r.all okB=true):rowBadS W r=rowBadI (numsOf r):=by
 subst h
 unfold rowBadS rowBadI
 rw [numsOf_len,numsOf_get,←numsOf_take,←chkS_nat (all_take ho _)]
 refine decide_eq_decide.2 ?_
 refine not_congr ?_
 constructor
 ·intro e;rw [e]
 ·intro e;exact (UInt8.toNat_inj.1 (by omega))
theorem colS_all {l:List (List UInt8)} {W c:Nat} (h:∀ r∈l,r.length=W∧r.all okB=true) (hc:c<W):(colS l (c:Int)).all okB=true:=colS_ok fun r hr=>⟨(h r hr).2,by have:=(h r hr).1;omega⟩
theorem getD_nums {l:List (List UInt8)} {k:Nat}:(numsB l).getD k []=numsOf (l.getD k []):=by
 rw [List.getD_eq_getElem?_getD,List.getD_eq_getElem?_getD,List.getElem?_map]
 cases l[k]?<;>rfl
theorem colBad_nums {W c:Nat} {l:List (List UInt8)} (h:shaped W l) (hc:c<W):colBadS l c=colBadI (numsB l) c:=by
 obtain ⟨h1,h2,h3,h4,h5⟩:=h
 unfold colBadS colBadI
 rw [List.length_map,getD_nums,numsOf_get,←List.map_take,←colS_nums,←chkS_nat (colS_all (fun r hr=>h5 r (List.mem_of_mem_take hr)) hc)]
 refine decide_eq_decide.2 ?_
 refine not_congr ?_
 constructor
 ·intro e;rw [e]
 ·intro e;exact (UInt8.toNat_inj.1 (by omega))
theorem badRows_nums {W:Nat} {l:List (List UInt8)} (h:shaped W l):badRows W l=badRowsI (numsB l):=by
 unfold badRows badRowsI
 rw [List.length_map]
 refine List.filter_congr fun v hv=>?_
 obtain ⟨i,hi,rfl⟩:=List.mem_map.1 hv
 have hi:=List.mem_range.1 hi
 have z:((i:Int)).toNat=i:=rfl
 rw [z,getD_nums]
 have hm:l.getD i []∈l:=by rw [List.getD_eq_getElem?_getD,List.getElem?_eq_getElem hi];exact List.getElem_mem hi
 exact rowBad_nums (h.2.2.2.2 _ hm).1 (h.2.2.2.2 _ hm).2
theorem badCols_nums {W:Nat} {l:List (List UInt8)} (h:shaped W l):badCols W l=badColsI W (numsB l):=by
 unfold badCols badColsI
 refine List.filter_congr fun v hv=>?_
 obtain ⟨i,hi,rfl⟩:=List.mem_map.1 hv
 have hi:=List.mem_range.1 hi
 exact colBad_nums h hi
def lookS (l:List (List UInt8)):Int×Int×Int:=lookI (wideL l) (numsB l)
def fixR (R:List (List Int)):List (List Int):=if (lookI (wideI R) R).1=1 then mendI R (lookI (wideI R) R).2.1 (lookI (wideI R) R).2.2 else R
def fixS (l:List (List UInt8)):List (List UInt8):=(fixR (numsB l)).map bytesOf
theorem lookI_cases (W:Nat) (R:List (List Int)) :
  (lookI W R=(0,0,0)∧(badRowsI R).length+(badColsI W R).length=0)∨
  (lookI W R=(2,0,0)∧(badRowsI R).length+(badColsI W R).length≠0)∨
  (∃ i j:Nat,lookI W R=(1,(i:Int),(j:Int))∧i<R.length∧j<W∧badRowsI R=[(i:Int)]∧badColsI W R=[(j:Int)]∧colBadI (mendI R (i:Int) (j:Int)) j=false):=by
 unfold lookI
 by_cases c1:(badRowsI R).length+(badColsI W R).length=0
 ·exact .inl ⟨if_pos c1,c1⟩
 ·rw [if_neg c1]
  by_cases c2:(badRowsI R).length≠1∨(badColsI W R).length≠1
  ·exact .inr (.inl ⟨if_pos c2,c1⟩)
  ·rw [if_neg c2]
   obtain ⟨v1,e1⟩:=List.length_eq_one_iff.1 (show (badRowsI R).length=1 by omega)
   obtain ⟨v2,e2⟩:=List.length_eq_one_iff.1 (show (badColsI W R).length=1 by omega)
   obtain ⟨i,hi,rfl,hib⟩:=badRowsI_mem.1 (show v1∈badRowsI R by rw [e1];simp)
   obtain ⟨j,hj,rfl,hjb⟩:=badColsI_mem.1 (show v2∈badColsI W R by rw [e2];simp)
   rw [e1,e2]
   have g1:List.getD [(i:Int)] 0 0=(i:Int):=rfl
   have g2:List.getD [(j:Int)] 0 0=(j:Int):=rfl
   have zj:((j:Int)).toNat=j:=rfl
   rw [g1,g2,zj]
   cases c3:colBadI (mendI R (i:Int) (j:Int)) j with
   | true=>exact .inr (.inl ⟨if_pos rfl,by rw [←e1,←e2];exact c1⟩)
   | false=>exact .inr (.inr ⟨i,j,if_neg (by decide),hi,hj,rfl,rfl,c3⟩)
theorem getD_memR {R:List (List Int)} {k:Nat} (h:k<R.length):R.getD k []∈R:=by
 rw [List.getD_eq_getElem?_getD,List.getElem?_eq_getElem h]
 exact List.getElem_mem h
theorem mendI_shaped {W:Nat} {R:List (List Int)} (h:shapedI W R) {i j:Nat} (hi:i<R.length) (hj:j<W):shapedI W (mendI R (i:Int) (j:Int)):=by
 obtain ⟨h1,h2,h3,h4,h5⟩:=h
 have zi:((i:Int)).toNat=i:=rfl
 have hr:=h5 _ (getD_memR hi)
 have hrok:rowOk (R.getD i []):=⟨by omega,by omega,hr.2⟩
 have hfx:=fixI_ok hrok (a:=(j:Int)) (by omega) (by omega)
 unfold mendI
 rw [zi]
 refine ⟨by rw [List.length_set];exact h1,by rw [List.length_set];exact h2,h3,h4,fun r hr'=>?_⟩
 rcases List.mem_or_eq_of_mem_set hr' with h | h
 ·exact h5 r h
 ·rw [h,putI_len]
  exact ⟨hr.1,(putI_ok hrok hfx.1).2.2⟩
theorem fixR_shaped {W:Nat} {R:List (List Int)} (h:shapedI W R):shapedI W (fixR R):=by
 have hw:=h.wide
 unfold fixR
 rw [hw]
 rcases lookI_cases W R with ⟨e,_⟩ | ⟨e,_⟩ | ⟨i,j,e,hi,hj,_⟩
 ·rw [e,if_neg (by decide)];exact h
 ·rw [e,if_neg (by decide)];exact h
 ·rw [e,if_pos rfl];exact mendI_shaped h hi hj
theorem nums_bytes {W:Nat} {R:List (List Int)} (h:shapedI W R):numsB (R.map bytesOf)=R:=by
 unfold numsB
 rw [List.map_map]
 have:R.map (numsOf ∘ bytesOf)=R.map id:=List.map_congr_left fun r hr=>numsOf_bytesOf fun v hv=>by
  have:=okI_iff.1 (List.all_eq_true.1 (h.2.2.2.2 r hr).2 v hv)
  omega
 rw [this,List.map_id]
theorem shaped_of_nums {W:Nat} {l:List (List UInt8)} (h:shapedI W (numsB l)):shaped W l:=by
 obtain ⟨h1,h2,h3,h4,h5⟩:=h
 rw [List.length_map] at h1 h2
 refine ⟨h1,h2,h3,h4,fun r hr=>?_⟩
 have:=h5 (numsOf r) (List.mem_map_of_mem hr)
 rw [numsOf_len,numsOf_okI] at this
 exact this
theorem shaped.wide {W:Nat} {l:List (List UInt8)} (h:shaped W l):wideL l=W:=by
 have h0:0<l.length:=by have:=h.1;omega
 unfold wideL
 rw [List.getD_eq_getElem?_getD,List.getElem?_eq_getElem h0]
 exact (h.2.2.2.2 _ (List.getElem_mem h0)).1
theorem fixS_nums {W:Nat} {l:List (List UInt8)} (h:shaped W l):numsB (fixS l)=fixR (numsB l):=nums_bytes (fixR_shaped h.nums)
theorem fixS_shaped {W:Nat} {l:List (List UInt8)} (h:shaped W l):shaped W (fixS l):=shaped_of_nums (by rw [fixS_nums h];exact fixR_shaped h.nums)
theorem bytes_nums (l:List (List UInt8)):(numsB l).map bytesOf=l:=by
 unfold numsB
 rw [List.map_map]
 have:l.map (bytesOf ∘ numsOf)=l.map id:=List.map_congr_left fun r _=>bytesOf_numsOf r
 rw [this,List.map_id]
theorem fixS_whole {l:List (List UInt8)} (h:(lookI (wideI (numsB l)) (numsB l)).1≠1):fixS l=l:=by
 unfold fixS fixR
 rw [if_neg h,bytes_nums]
theorem getD_out {out:List (List Hd)} {i:Nat} (h:i<out.length):out.getD i []∈out:=by
 rw [List.getD_eq_getElem?_getD,List.getElem?_eq_getElem h]
 exact List.getElem_mem h
theorem PoolB.row {m out O} (h:PoolB m out O) {i:Nat} (hi:i<out.length):rowsH m (out.getD i [])=numsB (O.getD i []):=by
 have hd:=congrArg (fun l=>l.getD i []) h.dat
 have e:out.length=O.length:=by have:=congrArg List.length h.dat;simpa using this
 have hi2:i<O.length:=by omega
 simp only [List.getD_eq_getElem?_getD,List.getElem?_map,List.getElem?_eq_getElem hi,List.getElem?_eq_getElem hi2,Option.map_some,Option.getD_some] at hd ⊢
 exact hd
theorem PoolB.len {m out O} (h:PoolB m out O):out.length=O.length:=by have:=congrArg List.length h.dat;simpa using this
theorem flat_ids {out:List (List Hd)}:∀ (_:(out.flatten.map (·.1)).Nodup),(∀ b∈out,(b.map (·.1)).Nodup)∧∀ i j,i<out.length→j<out.length→i≠j→∀ id∈(out.getD i []).map (·.1),id ∉ (out.getD j []).map (·.1):=by
 induction out with
 | nil=>intro _;exact ⟨by simp,fun i j h=>by cases h⟩
 | cons b out ih=>
  intro h
  rw [List.flatten_cons,List.map_append,List.nodup_append] at h
  obtain ⟨h1,h2,h3⟩:=h
  obtain ⟨k1,k2⟩:=ih h2
  have hin:∀ j,j<out.length→∀ id∈(out.getD j []).map (·.1),id∈out.flatten.map (·.1):=fun j hj id hid=>by
   obtain ⟨p,hp,rfl⟩:=List.mem_map.1 hid
   exact List.mem_map_of_mem (f:=(·.1)) (List.mem_flatten.2 ⟨_,getD_out hj,hp⟩)
  refine ⟨fun c hc=>?_,fun i j hi hj hij id hid=>?_⟩
  ·rcases List.mem_cons.1 hc with rfl | hc
   ·exact h1
   ·exact k1 c hc
  ·cases i with
   | zero=>
    cases j with
    | zero=>exact absurd rfl hij
    | succ j=>exact fun hx=>h3 id hid id (hin j (by simpa using hj) id hx) rfl
   | succ i=>
    cases j with
    | zero=>exact fun hx=>h3 id hx id (hin i (by simpa using hi) id hid) rfl
    | succ j=>exact k2 i j (by simpa using hi) (by simpa using hj) (by omega) id hid
theorem PoolB.look {m out O} (h:PoolB m out O) {i W:Nat} (hi:i<out.length) (hs:shaped W (O.getD i [])) :
  preLook (out.getD i [],m,())∧lookV (out.getD i [],m,())=lookS (O.getD i [])∧PoolB (poolL (out.getD i [],m,())) out (O.set i (fixS (O.getD i [])))∧∀ id,id ∉ (out.getD i []).map (·.1)→prow (poolL (out.getD i [],m,())) id=prow m id:=by
 have hrow:=h.row hi
 have hsI:=hs.nums
 have hwI:=hsI.wide
 have hwL:=hs.wide
 obtain ⟨f1,f2⟩:=flat_ids h.ids
 have hb:=getD_out hi
 have hol:=h.len
 have hlV:lookV (out.getD i [],m,())=lookS (O.getD i []):=by
  show lookI (wideI (rowsH m (out.getD i []))) (rowsH m (out.getD i []))=lookI (wideL (O.getD i [])) (numsB (O.getD i []))
  rw [hrow,hwI,hwL]
 have hpre:preLook (out.getD i [],m,()):=⟨h.nd,h.ok _ hb,f1 _ hb,W,by show shapedI W (rowsH m (out.getD i []));rw [hrow];exact hsI⟩
 have hfx:fixR (numsB (O.getD i []))=if (lookS (O.getD i [])).1=1 then mendI (numsB (O.getD i [])) (lookS (O.getD i [])).2.1 (lookS (O.getD i [])).2.2 else numsB (O.getD i []):=by
  unfold fixR lookS
  rw [hwI,hwL]
 have hself:∀ (d:List (List (List Int))),d.set i (d.getD i [])=d:=fun d=>by
  by_cases hd:i<d.length
  ·rw [List.getD_eq_getElem?_getD,List.getElem?_eq_getElem hd];simp
  ·rw [List.set_eq_of_length_le (by omega)]
 have key:∀ m':Pool,(m'.map (·.1)).Nodup→(∀ b∈out,∀ k∈b,hOk m' k)→rowsH m' (out.getD i [])=fixR (numsB (O.getD i []))→(∀ j,j<out.length→j≠i→rowsH m' (out.getD j [])=rowsH m (out.getD j []))→PoolB m' out (O.set i (fixS (O.getD i []))):=fun m' n1 n2 n3 n4=>by
  refine ⟨n1,n2,h.ids,?_⟩
  refine List.ext_getElem (by simp [hol]) fun j h1 h2=>?_
  have hj:j<out.length:=by simpa using h1
  have hjO:j<O.length:=by omega
  have eo:out[j]=out.getD j []:=by rw [List.getD_eq_getElem?_getD,List.getElem?_eq_getElem hj];rfl
  have eO:O[j]=O.getD j []:=by rw [List.getD_eq_getElem?_getD,List.getElem?_eq_getElem hjO];rfl
  rw [List.getElem_map,List.getElem_map,List.getElem_set,eo]
  by_cases e:i=j
  ·subst e
   rw [if_pos rfl,n3]
   exact (fixS_nums hs).symm
  ·rw [if_neg e,eO,n4 j hj fun k=>e k.symm,h.row hj]
 refine ⟨hpre,hlV,?_⟩
 unfold poolL
 rw [hlV]
 dsimp only
 rw [hrow]
 unfold lookS at hfx ⊢
 rcases lookI_cases (wideL (O.getD i [])) (numsB (O.getD i [])) with ⟨e,_⟩ | ⟨e,_⟩ | ⟨r,a,e,hr,ha,_,_,_⟩
 ·rw [e] at hfx ⊢
  rw [if_neg (by decide)] at hfx ⊢
  exact ⟨key m h.nd h.ok (by rw [hrow,hfx]) fun j _ _=>rfl,fun _ _=>rfl⟩
 ·rw [e] at hfx ⊢
  rw [if_neg (by decide)] at hfx ⊢
  exact ⟨key m h.nd h.ok (by rw [hrow,hfx]) fun j _ _=>rfl,fun _ _=>rfl⟩
 ·rw [e] at hfx ⊢
  rw [if_pos rfl] at hfx ⊢
  have zr:((r:Int)).toNat=r:=rfl
  have za:((a:Int)).toNat=a:=rfl
  dsimp only at hfx ⊢
  rw [zr,za]
  have hrl:r<(out.getD i []).length:=by rw [←rowsH_len m,hrow];exact hr
  have hmem:=getD_memH hrl
  refine ⟨key _ (by rw [keys_pset];exact h.nd) (fun b hb k hk=>hOk_pset (h.ok b hb k hk) _ _ _) ?_ ?_,?_⟩
  ·rw [rowsH_pset (f1 _ hb) hrl,hrow,hfx]
   unfold mendI putI
   rw [zr,za]
  ·intro j hj hji
   refine rowsH_pset_other (f2 i j hi hj (fun k=>hji k.symm) _ (List.mem_map_of_mem (f:=(·.1)) hmem)) _ _
  ·intro id hid
   refine prow_pset_other _ _ _ _ _ fun e=>hid ?_
   rw [e]
   exact List.mem_map_of_mem (f:=(·.1)) hmem
end Go.Fer
namespace Go.Fer
open M (Step)
set_option linter.unusedVariables false
set_option linter.unusedSimpArgs false
theorem blk_row (O:List (List (List UInt8))) (rest:List UInt8):∀ (r cur:List UInt8) (L:List (List UInt8)),r.all okB=true→cur++r≠[]→blkG (r++10::rest) (cur,O,L)=blkG rest ([],O,L++[cur++r])
 | [],cur,L,_,h=>by
  rw [List.append_nil] at h ⊢
  rw [List.nil_append,blkG_cons,blkF_end h]
 | b::r,cur,L,ha,h=>by
  simp only [List.all_cons,Bool.and_eq_true] at ha
  have hb:b≠10:=fun e=>by rw [e] at ha;exact absurd ha.1 (by decide)
  rw [List.cons_append,blkG_cons,blkF_byte hb]
  have:=blk_row O rest r (cur++[b]) L ha.2 (by simp)
  rw [List.append_assoc] at this
  exact this
theorem blk_rows (O:List (List (List UInt8))) (rest:List UInt8):∀ (l L:List (List UInt8)),(∀ r∈l,r≠[]∧r.all okB=true)→blkG (linesS l++rest) ([],O,L)=blkG rest ([],O,L++l)
 | [],L,_=>by simp [linesS]
 | r::l,L,h=>by
  obtain ⟨h1,h2⟩:=h r (by simp)
  have ih:=blk_rows O rest l (L++[r]) fun r hr=>h r (List.mem_cons_of_mem _ hr)
  have e:linesS (r::l)++rest=r++10::(linesS l++rest):=by unfold linesS;simp
  rw [e,blk_row O (linesS l++rest) r [] L h2 (by simpa using h1)]
  refine Eq.trans ih ?_
  simp
theorem isBlock_shaped {l:List (List UInt8)} {W:Nat} (h:shaped W l):isBlockV l=true:=by
 have hw:=h.wide
 obtain ⟨h1,h2,h3,h4,h5⟩:=h
 unfold isBlockV
 rw [decide_eq_true h1,decide_eq_true h2,Bool.true_and,Bool.true_and,List.all_eq_true]
 intro r hr
 obtain ⟨k1,k2⟩:=h5 r hr
 rw [Bool.not_eq_true',←Bool.not_eq_true,lineBad_iff]
 rintro (k | k | k | k)
 ·exact k (k1.trans hw.symm)
 ·omega
 ·omega
 ·rw [k2] at k;cases k
theorem blk_text {l:List (List UInt8)} {W:Nat} (h:shaped W l) (O:List (List (List UInt8))) (rest:List UInt8):blkG (textS l++rest) ([],O,[])=blkG rest ([],O++[l],[]):=by
 have e:textS l++rest=linesS l++10::rest:=by unfold textS;simp
 rw [e,blk_rows O (10::rest) l [] fun r hr=>⟨fun k=>by have:=(h.2.2.2.2 r hr).1;have:=h.2.2.1;rw [k] at *;simp at *;omega,(h.2.2.2.2 r hr).2⟩,List.nil_append,blkG_cons,blkF_block,if_pos (isBlock_shaped h)]
theorem blk_file:∀ (B O:List (List (List UInt8))),(∀ l∈B,shaped (wideL l) l)→blkE (blkG (B.flatMap textS) ([],O,[]))=(true,O++B)
 | [],O,_=>by
  rw [List.append_nil]
  rfl
 | l::B,O,h=>by
  rw [List.flatMap_cons,blk_text (h l (by simp)),blk_file B (O++[l]) fun l' hl=>h l' (List.mem_cons_of_mem _ hl)]
  simp
theorem blocks_file {B:List (List (List UInt8))} (h:∀ l∈B,shaped (wideL l) l):blocksV (B.flatMap textS)=(true,B):=by
 have:=blk_file B [] h
 rw [List.nil_append] at this
 exact this
theorem take_pad {w:Nat} {t:List UInt8} (h:t.length≤w) (h60:w≤60):takeT (rowS w t)=some t:=by
 have hl:(rowS w t).length=w+2:=by unfold rowS padS;simp;omega
 have h0:(rowS w t).getD 0 0=wrB (t.length:Int):=by unfold rowS padS;simp
 have hn:=wrB_nat (n:=(t.length:Int)) (by omega) (by omega)
 unfold takeT
 rw [hl,h0,hn,if_neg (by omega)]
 congr 1
 have e:(1+((t.length:Int)+32 - 32)).toNat=1+t.length:=by omega
 rw [e,Nat.add_comm]
 unfold rowS padS
 simp
theorem blockS_shaped {x:List (List UInt8)} (h:∀ t∈x,textOk t) (h1:1≤x.length) (h8:x.length≤8):shaped (wideS x+2) (blockS x):=by
 have hw:=wideS_60 h
 have hl:=blockS_len x
 exact ⟨by omega,by omega,by omega,by omega,fun r hr=>blockS_rows h r hr⟩
theorem blockS_take (x:List (List UInt8)):(blockS x).take ((blockS x).length - 1)=x.map (rowS (wideS x)):=by
 have e:(blockS x).length - 1=(x.map (rowS (wideS x))).length:=by rw [blockS_len,List.length_map];rfl
 rw [e]
 unfold blockS
 rw [List.take_left]
theorem fileS_eq (l:List (List UInt8)):fileS l=((chunks l).map blockS).flatMap textS:=by
 unfold fileS
 rw [List.flatMap_map]
theorem chunks_shaped {l:List (List UInt8)} (h:∀ t∈l,textOk t):∀ b∈(chunks l).map blockS,shaped (wideL b) b:=fun b hb=>by
 obtain ⟨c,hc,rfl⟩:=List.mem_map.1 hb
 obtain ⟨c1,c2,c3⟩:=chunks_mem h c hc
 have:=blockS_shaped c3 c2 c1
 rw [this.wide]
 exact this
theorem blocks_written {l:List (List UInt8)} (h:∀ t∈l,textOk t):blocksV (fileS l)=(true,(chunks l).map blockS):=by
 rw [fileS_eq]
 exact blocks_file (chunks_shaped h)
theorem chunk8_flat {α:Type}:∀ (f:Nat) (l:List α),l.length≤f→(chunk8 f l).flatten=l
 | 0,l,h=>by
  have:l=[]:=List.eq_nil_of_length_eq_zero (by omega)
  subst this
  rfl
 | f+1,[],_=>rfl
 | f+1,t::l,h=>by
  unfold chunk8
  rw [List.flatten_cons,chunk8_flat f _ (by simp only [List.length_drop,List.length_cons] at h ⊢;omega),List.take_append_drop]
theorem chunks_flat {α:Type} (l:List α):(chunks l).flatten=l:=chunk8_flat _ _ (Nat.le_refl _)
theorem wideS_all {x:List (List UInt8)} (h:∀ t∈x,textOk t):∀ t∈x,t.length≤wideS x:=(wideS_le x 0 (fun t ht=>(h t ht).1) (by omega)).2.2
theorem innerT_some:∀ (l:List (List UInt8)) (ts o:List (List UInt8)),l.map takeT=ts.map some→innerT l o=some (o++ts)
 | [],ts,o,h=>by
  have:ts=[]:=by simpa using h.symm
  subst this
  simp [innerT]
 | r::l,[],o,h=>by simp at h
 | r::l,t::ts,o,h=>by
  simp only [List.map_cons,List.cons.injEq] at h
  unfold innerT
  rw [h.1]
  dsimp only
  rw [innerT_some l ts (o++[t]) h.2]
  simp
theorem innerT_block {x:List (List UInt8)} (h:∀ t∈x,textOk t) (o:List (List UInt8)):innerT ((blockS x).take ((blockS x).length - 1)) o=some (o++x):=by
 rw [blockS_take]
 refine innerT_some _ x o ?_
 rw [List.map_map]
 exact List.map_congr_left fun t ht=>take_pad (wideS_all h t ht) (wideS_60 h)
theorem outerT_written:∀ (c:List (List (List UInt8))) (s:List UInt8×List (List UInt8)),(∀ x∈c,∀ t∈x,textOk t)→outerT (c.map blockS) s=some (s.1++(c.map blockS).flatMap textS,s.2++c.flatten)
 | [],s,_=>by simp [outerT]
 | x::c,s,h=>by
  simp only [List.map_cons,outerT]
  rw [innerT_block (h x (by simp))]
  dsimp only
  rw [outerT_written c _ fun x hx=>h x (List.mem_cons_of_mem _ hx)]
  simp
theorem writeS_ok {l:List (List UInt8)} (h:∀ t∈l,textOk t) (h40:l.length≤40):writeS l=(fileS l,0):=by
 unfold writeS
 rw [if_neg (by omega),if_neg]
 intro k
 obtain ⟨t,ht,hb⟩:=List.any_eq_true.1 k
 rw [badT_no.2 (h t ht)] at hb
 cases hb
theorem writeS_zero {l:List (List UInt8)} (h:(writeS l).2=0):(∀ t∈l,textOk t)∧l.length≤40∧writeS l=(fileS l,0):=by
 unfold writeS at h
 by_cases h1:l.length > 40
 ·rw [if_pos h1] at h;exact absurd h (by decide)
 ·rw [if_neg h1] at h
  by_cases h2:l.any badT=true
  ·rw [if_pos h2] at h;exact absurd h (by decide)
  ·have hok:∀ t∈l,textOk t:=fun t ht=>badT_no.1 (by
    cases hq:badT t with
    | false=>rfl
    | true=>exact absurd (List.any_eq_true.2 ⟨t,ht,hq⟩) h2)
   exact ⟨hok,by omega,writeS_ok hok (by omega)⟩
theorem texts_written {l:List (List UInt8)} (h:∀ t∈l,textOk t) (h40:l.length≤40):textsV ((chunks l).map blockS)=(l,true):=by
 unfold textsV
 rw [outerT_written _ _ fun x hx=>(chunks_mem h x hx).2.2]
 dsimp only
 rw [chunks_flat,List.nil_append,List.nil_append,writeS_ok h h40,fileS_eq]
 simp
def lineS (r:List UInt8):List UInt8:=lineI (numsOf r)
def minsS (l:List (List UInt8)):List (List UInt8):=(l.take (l.length - 1)).map lineS
def unpackS (O:List (List (List UInt8))):List (List UInt8)×Bool:=(O.flatMap minsS,decide ((writeS (O.flatMap minsS)).2=0)&&decide ((writeS (O.flatMap minsS)).1=O.flatMap textS))
theorem lineS_take {r t:List UInt8} (h:takeT r=some t):lineS r=t:=by
 unfold takeT at h
 have e0:(numsOf r).getD 0 0=((r.getD 0 0).toNat:Int):=numsOf_get r 0
 by_cases hc:((r.getD 0 0).toNat:Int) - 32 > (r.length:Int) - 2
 ·rw [if_pos hc] at h;cases h
 ·rw [if_neg hc] at h
  cases h
  unfold lineS lineI longI
  rw [e0,numsOf_len,←numsOf_take]
  have e:min (((r.getD 0 0).toNat:Int) - 32) ((r.length:Int) - 2)=((r.getD 0 0).toNat:Int) - 32:=by omega
  rw [e]
  have e2:∀ s:List UInt8,(numsOf s).drop 1=numsOf (s.drop 1):=fun s=>by unfold numsOf;rw [List.map_drop]
  rw [e2,bytesOf_numsOf]
theorem innerT_all:∀ (l o:List (List UInt8)),(∀ r∈l,takeT r≠none)→innerT l o=some (o++l.map lineS)
 | [],o,_=>by simp [innerT]
 | r::l,o,h=>by
  have hr:=h r (by simp)
  unfold innerT
  cases hq:takeT r with
  | none=>exact absurd hq hr
  | some t=>
   dsimp only
   rw [innerT_all l _ fun r hr=>h r (List.mem_cons_of_mem _ hr),List.map_cons,lineS_take hq]
   simp
theorem innerT_bad:∀ (l o:List (List UInt8)),(∃ r∈l,takeT r=none)→innerT l o=none
 | [],o,h=>by simp at h
 | r::l,o,h=>by
  unfold innerT
  cases hq:takeT r with
  | none=>rfl
  | some t=>
   obtain ⟨r',hr',h'⟩:=h
   rcases List.mem_cons.1 hr' with rfl | hr'
   ·rw [hq] at h';cases h'
   ·exact innerT_bad l _ ⟨r',hr',h'⟩
theorem outerT_all:∀ (O:List (List (List UInt8))) (s:List UInt8×List (List UInt8)),(∀ l∈O,∀ r∈l.take (l.length - 1),takeT r≠none)→outerT O s=some (s.1++O.flatMap textS,s.2++O.flatMap minsS)
 | [],s,_=>by simp [outerT]
 | l::O,s,h=>by
  unfold outerT
  rw [innerT_all _ _ (h l (by simp))]
  dsimp only
  rw [outerT_all O _ fun l hl=>h l (List.mem_cons_of_mem _ hl)]
  simp [minsS]
theorem outerT_bad:∀ (O:List (List (List UInt8))) (s:List UInt8×List (List UInt8)),(∃ l∈O,∃ r∈l.take (l.length - 1),takeT r=none)→outerT O s=none
 | [],s,h=>by simp at h
 | l::O,s,h=>by
  unfold outerT
  cases hq:innerT (l.take (l.length - 1)) s.2 with
  | none=>rfl
  | some o=>
   obtain ⟨l',hl',h'⟩:=h
   rcases List.mem_cons.1 hl' with rfl | hl'
   ·rw [innerT_bad _ _ h'] at hq;cases hq
   ·exact outerT_bad O _ ⟨l',hl',h'⟩
theorem unpackS_eq {O:List (List (List UInt8))} (h:∀ l∈O,shaped (wideL l) l):(unpackS O).2=(textsV O).2∧((textsV O).2=true→(unpackS O).1=(textsV O).1):=by
 by_cases hb:∃ l∈O,∃ r∈l.take (l.length - 1),takeT r=none
 ·have e:textsV O=([],false):=by unfold textsV;rw [outerT_bad O _ hb]
  rw [e]
  refine ⟨?_,fun k=>by cases k⟩
  cases hu:(unpackS O).2 with
  | false=>rfl
  | true=>
   unfold unpackS at hu
   simp only [Bool.and_eq_true,decide_eq_true_eq] at hu
   obtain ⟨hok,h40,hw⟩:=writeS_zero hu.1
   rw [hw] at hu
   have h2:fileS (O.flatMap minsS)=O.flatMap textS:=hu.2
   have b1:=blocks_written hok
   rw [h2,blocks_file h] at b1
   have hO:O=(chunks (O.flatMap minsS)).map blockS:=(Prod.mk.inj b1).2
   obtain ⟨l,hl,r,hr,hn⟩:=hb
   rw [hO] at hl
   obtain ⟨c,hc,rfl⟩:=List.mem_map.1 hl
   have hc3:=(chunks_mem hok c hc).2.2
   rw [blockS_take] at hr
   obtain ⟨t,ht,rfl⟩:=List.mem_map.1 hr
   rw [take_pad (wideS_all hc3 t ht) (wideS_60 hc3)] at hn
   cases hn
 ·have ha:∀ l∈O,∀ r∈l.take (l.length - 1),takeT r≠none:=fun l hl r hr k=>hb ⟨l,hl,r,hr,k⟩
  have e:textsV O=unpackS O:=by
   unfold textsV
   rw [outerT_all O _ ha]
   simp [unpackS]
  rw [e]
  exact ⟨rfl,fun _=>rfl⟩
abbrev fcUnpack:FC:=⟨.slice (.slice (.slice (.int .u8))),.prod (.slice .str) .bool,fun x=>List.length x<65536∧∀ l∈(x:List (List (List Int))),shapedI (wideI l) l,fun x=>unpackS (List.map (List.map bytesOf) (x:List (List (List Int))))⟩
theorem minsS_len (l:List (List UInt8)):(minsS l).length=l.length - 1:=by unfold minsS;simp
theorem sUnpack (x):M.le (S_files_unpack fcWriteP.sh fcText.sh shWStr shBStr fcTexts.sh x) (fcUnpack.sh x):=M.le_det fun h=>by
 change List (List (List Int)) at x
 obtain ⟨h1,h2⟩:x.length<65536∧∀ l∈x,shapedI (wideI l) l:=h
 obtain ⟨O,hO⟩:∃ O:List (List (List UInt8)),O=x.map (List.map bytesOf):=⟨_,rfl⟩
 have hx:x=O.map numsB:=by
  rw [hO,List.map_map]
  have:x.map (numsB ∘ List.map bytesOf)=x.map id:=List.map_congr_left fun l hl=>nums_bytes (h2 l hl)
  rw [this,List.map_id]
 have hsh:∀ l∈O,shaped (wideL l) l:=fun l hl=>by
  have:=h2 (numsB l) (by rw [hx];exact List.mem_map_of_mem hl)
  have:=shaped_of_nums this
  rw [this.wide]
  exact this
 have hg:fcUnpack.g x=unpackS O:=by show unpackS (x.map (List.map bytesOf))=_;rw [←hO]
 rw [hg]
 subst hx
 rw [List.length_map] at h1
 clear hO hg h2
 unfold S_files_unpack
 rw [M.bind_pure,M.go_next]
 dsimp only
 rw [M.loop_list O (fun i (s:List (List UInt8)×List Int)=>(O.map numsB,(O.length:Int),(i:Int),s.1,s.2,())) (fun l s=>.next (s.1++minsS l,s.2++numsOf (textS l))) (fun s=>.next (s.1,s.2,())) (fun i s=>s.1.length≤8*i∧s.2.length≤600*i) ([],[]) ?_ ?_ ?_ ?_]
 ·rw [foldS_next,M.bind_pure,M.go_next]
  dsimp only
  have e:∀ (l:List (List (List UInt8))) (s:List (List UInt8)×List Int),l.foldl (fun s l=>(s.1++minsS l,s.2++numsOf (textS l))) s=(s.1++l.flatMap minsS,s.2++numsOf (l.flatMap textS)):=by
   intro l
   induction l with
   | nil=>intro s;simp [numsOf]
   | cons b l ih=>intro s;rw [List.foldl_cons,ih];simp [numsOf]
  rw [e]
  dsimp only
  rw [List.nil_append,List.nil_append]
  have hml:∀ l:List (List (List UInt8)),(∀ b∈l,shaped (wideL b) b)→(l.flatMap minsS).length≤8*l.length:=by
   intro l
   induction l with
   | nil=>intro _;simp
   | cons b l ih=>
    intro hb
    have:=ih fun b' h'=>hb b' (List.mem_cons_of_mem _ h')
    have hbl:=(hb b (by simp)).2.1
    rw [List.flatMap_cons,List.length_append,minsS_len,List.length_cons]
    omega
  have hml:=hml O hsh
  rw [show fcWriteP.sh (O.flatMap minsS)=M.pure (writeS (O.flatMap minsS)) from (M.det_true (show (O.flatMap minsS).length<2 ^ 63 from by omega) _).trans (by rw [←writeS_eq]),M.bind_pure]
  unfold unpackS
  by_cases hz:(writeS (O.flatMap minsS)).2=0
  ·rw [if_pos (decide_eq_true hz),M.req_True,show shBStr (numsOf (O.flatMap textS),())=M.pure (O.flatMap textS,()) from by unfold shBStr;rw [bytesOf_numsOf],M.bind_pure,M.req_true (fun e=>⟨⟨e,trivial⟩,trivial,trivial⟩)]
  ·rw [if_neg (by rw [decide_eq_true_iff];exact hz),M.req_true (fun e=>absurd (of_decide_eq_true e) hz),decide_eq_false hz]
   rfl
 ·simp [ofNat_def]
 ·exact ⟨Nat.le_refl _,Nat.le_refl _⟩
 ·intro i hi s hs
  obtain ⟨ts,own⟩:=s
  obtain ⟨s1,s2⟩:ts.length≤8*i∧own.length≤600*i:=hs
  have hw:=wrap64 (n:=(i:Int)+1) (by omega) (by omega)
  have hl:=hsh _ (List.getElem_mem hi)
  have hlI:=hl.nums
  have htl:=shaped_text hl
  have hgi:(O.map numsB).getD i []=numsB O[i]:=by rw [List.getD_eq_getElem?_getD,List.getElem?_map,List.getElem?_eq_getElem hi];rfl
  have hzi:((i:Int)).toNat=i:=rfl
  have hlen:=hl.2.1
  have h22:=hl.1
  have ht:fcTexts.sh (numsB O[i])=M.pure (minsS O[i]):=(M.det_true (show (1≤(numsB O[i]).length∧(numsB O[i]).length<65536)∧∀ r∈numsB O[i],rowOk r from ⟨⟨by rw [List.length_map];omega,by rw [List.length_map];omega⟩,fun r hr=>hlI.row hr⟩) _).trans (by
   show M.pure (((numsB O[i]).take ((numsB O[i]).length - 1)).map lineI)=_
   unfold minsS
   rw [List.length_map,←List.map_take,List.map_map]
   rfl)
  have hx:fcText.sh (numsB O[i])=M.pure (textS O[i]):=(M.det_true (show (numsB O[i]).length<65536∧∀ r∈numsB O[i],r.length<65535 from ⟨by rw [List.length_map];omega,fun r hr=>(hlI.row hr).2.1⟩) _).trans (by
   show M.pure (bytesOf (textI (numsB O[i])))=_
   rw [←textS_nums,bytesOf_numsOf])
  refine ⟨?_,fun s' hs'=>?_⟩
  ·simp only [lt_len hi,if_true,hzi,ofNat_def,List.length_map,in_len hi,M.req_True,add_def,add_defN,hw,hgi,ht,hx,M.bind_pure]
   have hml:=minsS_len O[i]
   rw [M.req_true (by unfold lenLe;omega),show shWStr (textS O[i],own,())=M.pure (((textS O[i]).length:Int),own++numsOf (textS O[i]),()) from M.det_true (by show lenLe (own.length+(textS O[i]).length);unfold lenLe;omega) _,M.bind_pure]
   rfl
  ·simp only [Step.next.injEq] at hs'
   subst hs'
   have hml:=minsS_len O[i]
   exact ⟨by show (ts++minsS O[i]).length≤_;rw [List.length_append];omega,by show (own++numsOf (textS O[i])).length≤_;rw [List.length_append,numsOf_len];omega⟩
 ·intro s hs
  simp
end Go.Fer
