/- Part 3 of the proof of HireOrder: shallow programs of Go functions, and what they compute. No condition. -/
import Derived.Test.YtjacmbbmcjdphaaGreatHireOrderB
import Derived.RangeFuncIn
import Derived.RangeFuncRecord
import Derived.RangeFuncBound
noncomputable section
namespace Go.Fer
open Go.RowKit
def Kind (x y:Body):Prop:=(y.isCells=true→x.isCells=true)∧(y.isArr=true→x.isArr=true∧y.len=x.len∧y.esz=x.esz)∧(y.isMap=true→x.isMap=true)∧(y.isIt=true→x.isIt=true)∧∀ k,y.owned k=true→x.owned k=true
theorem Kind.refl (x:Body):Kind x x:=⟨id,fun h=>⟨h,rfl,rfl⟩,id,id,fun _=>id⟩
theorem Kind.dead (x:Body):Kind x .dead:=⟨fun h=>(by cases h),fun h=>(by cases h),fun h=>(by cases h),fun h=>(by cases h),fun _ h=>(by cases h)⟩
def Reg (f:Nat→Nat) (H H':Nat→ABlk):Prop:=∀ b,(H' b).gen=0∧Kind (H (f b)).body (H' b).body
section
variable {P:Program} {H H':Nat→ABlk} {κ:Nat→KB} {F F':Nat→Prop} {w:World} {f:Nat→Nat}
theorem RA_loc0 (hg:Reg f H H') {b off:Nat} {v:Value} (h:RA P H κ F w (.loc (f b) (H (f b)).gen off) v):RA P H' (fun b=>κ (f b)) F' w (.loc b 0 off) v:=
 ⟨⟨Nat.zero_le _,h.1.2⟩,fun _ hc=>h.2 rfl ((hg b).2.1 hc)⟩
def RdOk (P:Program) (H H':Nat→ABlk) (κ:Nat→KB) (f:Nat→Nat) (F F':Nat→Prop) (w:World) {R:Type} (r:Option (R×List Nat)) (l:List Nat) (av av':AV) (y:R):Prop:=
 ∃ m,r=some (y,m)∧(∀ b∈m,b∈l)∧(FzIn H κ F' l→∀ v,RA P H κ F w av v→RA P H' (fun b=>κ (f b)) F' w av' v)
theorem RdOk.same {R:Type} {r:Option (R×List Nat)} {l:List Nat} {av av':AV} {y:R} (h:r=some (y,l)) (k:∀ v,RA P H κ F w av v→RA P H' (fun b=>κ (f b)) F' w av' v):RdOk P H H' κ f F F' w r l av av' y:=
 ⟨l,h,fun _ hb=>hb,fun _=>k⟩
theorem ifB_some {α:Type} {b:Bool} {r:Option α} {x:α} (h:ifB b r=some x):b=true∧r=some x:=by
 cases b with
 | true=>exact ⟨rfl,h⟩
 | false=>cases h
theorem rdVal_some {t:Ty} {av:AV} {R:Type} {r:Option (R×List Nat)} {z:t.Den×R} {l:List Nat} (h:rdVal H t av r=some (z,l)):∃ l1 m,(asDen t av).run H=some (z.1,l1)∧r=some (z.2,m)∧l=l1++m:=by
 unfold rdVal at h
 split at h
 ·rename_i x l1 hx
  split at h
  ·rename_i y m
   cases h
   exact ⟨l1,m,hx,rfl,rfl⟩
  ·cases h
 ·cases h
theorem rdPp_some {t:Ty} {av:AV} {R:Type} {r:Option (R×List Nat)} {z:t.Den×R} {l:List Nat} (h:rdPp t av r=some (z,l)):av=.pp t z.1∧r=some (z.2,l):=by
 unfold rdPp at h
 split at h
 ·rename_i t' x
  split at h
  ·rename_i y m
   split at h
   ·rename_i e
    subst e
    cases h
    exact ⟨rfl,rfl⟩
   ·cases h
  ·cases h
 ·cases h
theorem rdSub_some {b:Nat} {av:AV} {R:Type} {r:Option (R×List Nat)} {z:(Nat×Nat)×R} {l:List Nat} (h:rdSub H b av r=some (z,l)) :
  r=some (z.2,l)∧(av=.sub b (H b).gen z.1.1 z.1.2∨(av=.own b (H b).gen∧(H b).body.isArr=true∧z.1=(0,(H b).body.len))):=by
 unfold rdSub at h
 split at h
 ·rename_i y m
  split at h
  ·rename_i b' g
   split at h
   ·rename_i hc
    simp only [Bool.and_eq_true,beq_iff_eq] at hc
    obtain ⟨⟨rfl,rfl⟩,hc⟩:=hc
    cases h
    exact ⟨rfl,.inr ⟨rfl,hc,rfl⟩⟩
   ·cases h
  ·rename_i b' g lo hi
   split at h
   ·rename_i hc
    simp only [Bool.and_eq_true,beq_iff_eq] at hc
    obtain ⟨rfl,rfl⟩:=hc
    cases h
    exact ⟨rfl,.inl rfl⟩
   ·cases h
  ·cases h
 ·cases h
theorem rdTr_some {A:Ty} {av:AV} {R:Type} {r:Option (R×List Nat)} {z:(Nat×(List A.Den→Prop)×List A.Den×Bool)×R} {l:List Nat} (h:rdTr A av r=some (z,l)) :
  r=some (z.2,l)∧av=.tr z.1.1 A z.1.2.1 z.1.2.2.1 z.1.2.2.2:=by
 unfold rdTr at h
 split at h
 ·rename_i l' A' L n st
  split at h
  ·rename_i y m
   split at h
   ·rename_i e
    subst e
    cases h
    exact ⟨rfl,rfl⟩
   ·cases h
  ·cases h
 ·cases h
theorem rdYld_some {av:AV} {R:Type} {r:Option (R×List Nat)} {z:Nat×R} {l:List Nat} (h:rdYld av r=some (z,l)):r=some (z.2,l)∧av=.yld z.1:=by
 unfold rdYld at h
 split at h
 ·split at h
  ·cases h;exact ⟨rfl,rfl⟩
  ·cases h
 ·cases h
theorem okLoc_some {b off:Nat} {av:AV} (h:okLoc H b off av=true):av=.loc b (H b).gen off:=by
 unfold okLoc at h
 split at h
 ·simp only [Bool.and_eq_true,beq_iff_eq] at h
  obtain ⟨⟨rfl,rfl⟩,rfl⟩:=h
  rfl
 ·cases h
theorem okOwn_some {b:Nat} {av:AV} (h:okOwn H b av=true):av=.own b (H b).gen:=by
 unfold okOwn at h
 split at h
 ·simp only [Bool.and_eq_true,beq_iff_eq] at h
  obtain ⟨rfl,rfl⟩:=h
  rfl
 ·cases h
theorem okMapl_some {b:Nat} {av:AV} (h:okMapl H b av=true):av=.mapl b (H b).gen:=by
 unfold okMapl at h
 split at h
 ·simp only [Bool.and_eq_true,beq_iff_eq] at h
  obtain ⟨rfl,rfl⟩:=h
  rfl
 ·cases h
theorem okIter_some {b:Nat} {av:AV} (h:okIter H b av=true):av=.iter b (H b).gen:=by
 unfold okIter at h
 split at h
 ·simp only [Bool.and_eq_true,beq_iff_eq] at h
  obtain ⟨rfl,rfl⟩:=h
  rfl
 ·cases h
theorem okNils_some {av:AV} (h:okNils av=true):av=.nils:=by
 unfold okNils at h
 split at h
 ·rfl
 ·cases h
theorem okClo_ok (hg:Reg f H H') {k:FuncId} {ls:List (Nat×Nat)} {av:AV} (h:okClo H f k ls av=true) {v:Value} (hv:RA P H κ F w av v):RA P H' (fun b=>κ (f b)) F' w (.clo k ls.length (cloCaps gId ls)) v:=by
 unfold okClo at h
 split at h
 ·rename_i k' n caps
  simp only [Bool.and_eq_true,beq_iff_eq] at h
  obtain ⟨⟨rfl,rfl⟩,e⟩:=h
  obtain ⟨vs,h1,h2,h3⟩:=hv
  refine ⟨vs,h1,h2,fun i hi=>?_⟩
  have he:=List.all_eq_true.1 e i (by simpa using hi)
  have hv:=h3 i hi
  rw [show ls[i]?=some ls[i] by simp] at he
  rw [okLoc_some he] at hv
  have:cloCaps gId ls i=.loc ls[i].1 0 ls[i].2:=by simp [cloCaps,nthAV,List.getD_eq_getElem?_getD,hi,gId]
  rw [this]
  exact RA_loc0 hg hv
 ·cases h
theorem okRow_ok (hg:Reg f H H') {bs:List Nat} {av:AV} (h:okRow H f bs av=true) {v:Value} (hv:RA P H κ F w av v):RA P H' (fun b=>κ (f b)) F' w (.agg bs.length (rowAV gId bs)) v:=by
 unfold okRow at h
 split at h
 ·rename_i n h'
  simp only [Bool.and_eq_true,beq_iff_eq] at h
  obtain ⟨rfl,e⟩:=h
  obtain ⟨vs,h1,h2,h3⟩:=hv
  refine ⟨vs,h1,h2,fun i hi=>?_⟩
  have he:=List.all_eq_true.1 e i (by simpa using hi)
  obtain ⟨hv,hc⟩:=h3 i hi
  refine ⟨?_,hc⟩
  rw [show bs[i]?=some bs[i] by simp] at he
  rw [okOwn_some he] at hv
  have:rowAV gId bs i=.own bs[i] 0:=by simp [rowAV,nthAV,List.getD_eq_getElem?_getD,hi,gId]
  rw [this]
  refine ⟨⟨Nat.zero_le _,hv.1.2⟩,fun _ hc=>?_⟩
  obtain ⟨k1,k2,_⟩:=(hg bs[i]).2.2.1 hc
  rw [k2]
  exact hv.2 rfl k1
 ·cases h
theorem rd_ok (hB:∀ b,HB P H κ F w b) (hF:∀ r,F r→F' r) (hg:Reg f H H') (t:TAV) {av:AV} {R:Type} {r:Option (R×List Nat)} {z:t.cons R} {l:List Nat} (h:t.rd H f av r=some (z,l)) :
  RdOk P H H' κ f F F' w r l av (t.av gId z).1 (t.av gId z).2:=by
 cases t with
 | undef=>exact .same h fun _ _=>by simp only [TAV.av,RA]
 | val t=>
  obtain ⟨l1,m,hx,rfl,rfl⟩:=rdVal_some h
  exact ⟨m,rfl,fun b hb=>List.mem_append_right _ hb,fun hl v hv=>asDen_ok hB hF hx hl.left hv⟩
 | pp t=>
  obtain ⟨rfl,rfl⟩:=rdPp_some h
  exact .same rfl fun v ⟨p,ds,h1,h2,h3⟩=>⟨p,ds,h1,h2.mono hF (Ext.refl _ _),RC_mono _ hF (Ext.refl _ _) h3⟩
 | loc b off=>
  obtain ⟨h1,h2⟩:=ifB_some h
  obtain rfl:=okLoc_some h1
  exact .same h2 fun v hv=>RA_loc0 hg hv
 | own b=>
  obtain ⟨h1,h2⟩:=ifB_some h
  obtain rfl:=okOwn_some h1
  refine .same h2 fun v hv=>⟨⟨Nat.zero_le _,hv.1.2⟩,fun _ hc=>?_⟩
  obtain ⟨k1,k2,_⟩:=(hg b).2.2.1 hc
  simp only [gId]
  rw [k2]
  exact hv.2 rfl k1
 | sub b=>
  obtain ⟨h1,h2⟩:=rdSub_some h
  refine .same h1 fun v hv=>?_
  rcases h2 with rfl | ⟨rfl,harr,h3⟩
  ·refine ⟨⟨Nat.zero_le _,hv.1.2⟩,fun _ hc=>?_⟩
   obtain ⟨k1,k2,k3⟩:=(hg b).2.2.1 hc
   simp only [gId] at k2 k3 ⊢
   rw [k2,k3]
   exact hv.2 rfl k1
  ·refine ⟨⟨Nat.zero_le _,hv.1.2⟩,fun _ hc=>?_⟩
   obtain ⟨k1,k2,k3⟩:=(hg b).2.2.1 hc
   have:=hv.2 rfl k1
   simp only [gId] at k2 k3 ⊢
   rw [k2,k3,h3]
   refine ⟨⟨Nat.zero_le _,Nat.le_refl _⟩,?_⟩
   rw [this]
   unfold KB.slice
   cases hn:(κ (f b)).isNil with
   | true=>exact .inl ⟨hn,rfl⟩
   | false=>exact .inr ⟨hn,(κ (f b)).off,by simp,by simp,fun _=>by simp⟩
 | mapl b=>
  obtain ⟨h1,h2⟩:=ifB_some h
  obtain rfl:=okMapl_some h1
  exact .same h2 fun v hv=>⟨⟨Nat.zero_le _,hv.1.2⟩,fun _ hc=>hv.2 rfl ((hg b).2.2.2.1 hc)⟩
 | iter b=>
  obtain ⟨h1,h2⟩:=ifB_some h
  obtain rfl:=okIter_some h1
  exact .same h2 fun v hv=>⟨⟨Nat.zero_le _,hv.1.2⟩,fun _ hc=>hv.2 rfl ((hg b).2.2.2.2.1 hc)⟩
 | nils=>
  obtain ⟨h1,h2⟩:=ifB_some h
  obtain rfl:=okNils_some h1
  exact .same h2 fun v hv=>hv
 | clo k ls=>
  obtain ⟨h1,h2⟩:=ifB_some h
  exact .same h2 fun v hv=>okClo_ok hg h1 hv
 | row bs=>
  obtain ⟨h1,h2⟩:=ifB_some h
  exact .same h2 fun v hv=>okRow_ok hg h1 hv
 | tr A=>
  obtain ⟨h1,rfl⟩:=rdTr_some h
  exact .same h1 fun v hv=>hv
 | yld=>
  obtain ⟨h1,rfl⟩:=rdYld_some h
  exact .same h1 fun v hv=>hv
theorem rdL_ok (hB:∀ b,HB P H κ F w b) (hF:∀ r,F r→F' r) (hg:Reg f H H'):∀ (ts:List TAV) {c:Nat→AV} {i:Nat} {R:Type} {r:Option (R×List Nat)} {z:consL ts R} {l:List Nat},rdL H f ts c i r=some (z,l)→
  ∃ m,r=some ((avL gId ts z).2,m)∧(∀ b∈m,b∈l)∧(FzIn H κ F' l→∀ j,j<ts.length→∀ v,RA P H κ F w (c (i+j)) v→RA P H' (fun b=>κ (f b)) F' w ((avL gId ts z).1.getD j .undef) v):=by
 intro ts
 induction ts with
 | nil=>intro c i R r z l h;exact ⟨l,h,fun _ hb=>hb,fun _ j hj=>by cases hj⟩
 | cons t ts ih=>
  intro c i R r z l h
  obtain ⟨m1,h1,h2,h3⟩:=rd_ok (F':=F') (H':=H') hB hF hg t h
  obtain ⟨m2,k1,k2,k4⟩:=ih h1
  refine ⟨m2,k1,fun b hb=>h2 b (k2 b hb),fun hl j hj v hv=>?_⟩
  cases j with
  | zero=>exact h3 hl v hv
  | succ j=>
   have:=k4 (fun b hb=>hl b (h2 b hb)) j (by simpa using hj) v (by rw [show i+1+j=i+(j+1) by omega];exact hv)
   simpa [avL] using this
theorem rdS_ok (hB:∀ b,HB P H κ F w b) (hF:∀ r,F r→F' r) (hg:Reg f H H'):∀ (ts:List (Nat×TAV)) {c:Nat→AV} {R:Type} {r:Option (R×List Nat)} {z:slotDen ts R} {l:List Nat},rdS H f ts c r=some (z,l)→
  ∃ m,r=some ((slotsL gId ts z).2,m)∧(∀ b∈m,b∈l)∧(FzIn H κ F' l→∀ i v,RA P H κ F w (c i) v→RA P H' (fun b=>κ (f b)) F' w (look (slotsL gId ts z).1 i) v):=by
 intro ts
 induction ts with
 | nil=>intro c R r z l h;exact ⟨l,h,fun _ hb=>hb,fun _ _ _ _=>by simp only [slotsL,look,RA]⟩
 | cons p ts ih=>
  intro c R r z l h
  obtain ⟨m1,h1,h2,h3⟩:=rd_ok (F':=F') (H':=H') hB hF hg p.2 h
  obtain ⟨m2,k1,k2,k4⟩:=ih h1
  refine ⟨m2,k1,fun b hb=>h2 b (k2 b hb),fun hl i v hv=>?_⟩
  simp only [slotsL,look]
  split
  ·rename_i e
   rw [e] at hv
   exact h3 hl v hv
  ·exact k4 (fun b hb=>hl b (h2 b hb)) i v hv
theorem rd_shape (t:TAV) {av:AV} {R:Type} {r:Option (R×List Nat)} {z:t.cons R} {l:List Nat} (h:t.rd H f av r=some (z,l)):∃ m,r=some ((t.av gId z).2,m)∧∀ b∈m,b∈l:=by
 cases t with
 | undef=>exact ⟨l,h,fun _ h=>h⟩
 | val t=>obtain ⟨_,m,_,h2,h3⟩:=rdVal_some h;exact ⟨m,h2,fun b hb=>h3 ▸ List.mem_append_right _ hb⟩
 | pp t=>exact ⟨l,(rdPp_some h).2,fun _ h=>h⟩
 | sub b=>exact ⟨l,(rdSub_some h).1,fun _ h=>h⟩
 | tr A=>exact ⟨l,(rdTr_some h).1,fun _ h=>h⟩
 | yld=>exact ⟨l,(rdYld_some h).1,fun _ h=>h⟩
 | loc b off=>exact ⟨l,(ifB_some h).2,fun _ h=>h⟩
 | own b=>exact ⟨l,(ifB_some h).2,fun _ h=>h⟩
 | mapl b=>exact ⟨l,(ifB_some h).2,fun _ h=>h⟩
 | iter b=>exact ⟨l,(ifB_some h).2,fun _ h=>h⟩
 | nils=>exact ⟨l,(ifB_some h).2,fun _ h=>h⟩
 | clo k ls=>exact ⟨l,(ifB_some h).2,fun _ h=>h⟩
 | row bs=>exact ⟨l,(ifB_some h).2,fun _ h=>h⟩
theorem rdL_shape:∀ (ts:List TAV) {c:Nat→AV} {i:Nat} {R:Type} {r:Option (R×List Nat)} {z:consL ts R} {l:List Nat},rdL H f ts c i r=some (z,l)→∃ m,r=some ((avL gId ts z).2,m)∧∀ b∈m,b∈l:=by
 intro ts
 induction ts with
 | nil=>intro c i R r z l h;exact ⟨l,h,fun _ h=>h⟩
 | cons t ts ih=>
  intro c i R r z l h
  obtain ⟨m,h1,h2⟩:=rd_shape t h
  obtain ⟨m',h3,h4⟩:=ih h1
  exact ⟨m',h3,fun b hb=>h2 b (h4 b hb)⟩
theorem rdS_shape:∀ (ts:List (Nat×TAV)) {c:Nat→AV} {R:Type} {r:Option (R×List Nat)} {z:slotDen ts R} {l:List Nat},rdS H f ts c r=some (z,l)→∃ m,r=some ((slotsL gId ts z).2,m)∧∀ b∈m,b∈l:=by
 intro ts
 induction ts with
 | nil=>intro c R r z l h;exact ⟨l,h,fun _ h=>h⟩
 | cons p ts ih=>
  intro c R r z l h
  obtain ⟨m,h1,h2⟩:=rd_shape p.2 h
  obtain ⟨m',h3,h4⟩:=ih h1
  exact ⟨m',h3,fun b hb=>h2 b (h4 b hb)⟩
theorem rd_closed (t:TAV) {av:AV} {R:Type} {r:Option (R×List Nat)} {z:t.cons R} {l:List Nat} (h:t.rd H f av r=some (z,l)) (hr:∀ y m,r=some (y,m)→Closed H m):Closed H l:=by
 cases t with
 | undef=>exact hr _ _ h
 | val t=>obtain ⟨_,m,h1,h2,rfl⟩:=rdVal_some h;exact (asDen_closed h1).append (hr _ _ h2)
 | pp t=>exact hr _ _ (rdPp_some h).2
 | sub b=>exact hr _ _ (rdSub_some h).1
 | tr A=>exact hr _ _ (rdTr_some h).1
 | yld=>exact hr _ _ (rdYld_some h).1
 | loc b off=>exact hr _ _ (ifB_some h).2
 | own b=>exact hr _ _ (ifB_some h).2
 | mapl b=>exact hr _ _ (ifB_some h).2
 | iter b=>exact hr _ _ (ifB_some h).2
 | nils=>exact hr _ _ (ifB_some h).2
 | clo k ls=>exact hr _ _ (ifB_some h).2
 | row bs=>exact hr _ _ (ifB_some h).2
theorem rdL_closed:∀ (ts:List TAV) {c:Nat→AV} {i:Nat} {R:Type} {r:Option (R×List Nat)} {z:consL ts R} {l:List Nat},rdL H f ts c i r=some (z,l)→(∀ y m,r=some (y,m)→Closed H m)→Closed H l:=by
 intro ts
 induction ts with
 | nil=>intro c i R r z l h hr;exact hr _ _ h
 | cons t ts ih=>intro c i R r z l h hr;exact rd_closed t h fun y m hm=>ih hm hr
theorem rdS_closed:∀ (ts:List (Nat×TAV)) {c:Nat→AV} {R:Type} {r:Option (R×List Nat)} {z:slotDen ts R} {l:List Nat},rdS H f ts c r=some (z,l)→(∀ y m,r=some (y,m)→Closed H m)→Closed H l:=by
 intro ts
 induction ts with
 | nil=>intro c R r z l h hr;exact hr _ _ h
 | cons p ts ih=>intro c R r z l h hr;exact rd_closed p.2 h fun y m hm=>ih hm hr
theorem rdCells_some {t:Ty} {ts:List TAV} {bd:Body} {R:Type} {r:Option (R×List Nat)} {z:consL ts R} {l:List Nat} (h:rdCells H f t ts bd r=some (z,l)):∃ c,bd=.cells t c∧t.size=ts.length∧rdL H f ts c 0 r=some (z,l):=by
 unfold rdCells at h
 split at h
 ·split at h
  ·rename_i hc
   obtain ⟨rfl,hc⟩:=hc
   exact ⟨_,rfl,hc,h⟩
  ·cases h
 ·cases h
theorem rdArr_some {e:Ty} {bd:Body} {R:Type} {r:Option (R×List Nat)} {z:List e.Den×R} {l:List Nat} (h:rdArr e bd r=some (z,l)):r=some (z.2,l)∧bd=.arr e z.1:=by
 unfold rdArr at h
 split at h
 ·split at h
  ·split at h
   ·rename_i he
    subst he
    cases h
    exact ⟨rfl,rfl⟩
   ·cases h
  ·cases h
 ·cases h
theorem rdMp_some {k v:Ty} {bd:Body} {R:Type} {r:Option (R×List Nat)} {z:List (k.Den×v.Den)×R} {l:List Nat} (h:rdMp k v bd r=some (z,l)):r=some (z.2,l)∧bd=.mp k v z.1:=by
 unfold rdMp at h
 split at h
 ·split at h
  ·split at h
   ·rename_i he
    obtain ⟨he1,he2⟩:=he
    subst he1
    subst he2
    cases h
    exact ⟨rfl,rfl⟩
   ·cases h
  ·cases h
 ·cases h
theorem rdIt_some {k v:Ty} {bd:Body} {R:Type} {r:Option (R×List Nat)} {z:(Option (k.Den×v.Den)×List (k.Den×v.Den))×R} {l:List Nat} (h:rdIt k v bd r=some (z,l)):r=some (z.2,l)∧bd=.it k v z.1.1 z.1.2:=by
 unfold rdIt at h
 split at h
 ·split at h
  ·split at h
   ·rename_i he
    obtain ⟨he1,he2⟩:=he
    subst he1
    subst he2
    cases h
    exact ⟨rfl,rfl⟩
   ·cases h
  ·cases h
 ·cases h
theorem rdWhole_some {t:Ty} {bd:Body} {R:Type} {r:Option (R×List Nat)} {z:t.Den×R} {l:List Nat} (h:rdWhole H t bd r=some (z,l)):∃ c,bd=.cells t c∧rdVal H t (.agg t.size c) r=some (z,l):=by
 unfold rdWhole at h
 split at h
 ·split at h
  ·rename_i he
   subst he
   exact ⟨_,rfl,h⟩
  ·cases h
 ·cases h
theorem rdFrzc_some {t:Ty} {b:Nat} {R:Type} {r:Option (R×List Nat)} {z:t.Den×R} {l:List Nat} (h:rdFrzc H t b r=some (z,l)):∃ l1 m,(asDen (.ptr t) (.loc b (H b).gen 0)).run H=some (some z.1,l1)∧r=some (z.2,m)∧l=l1++m:=by
 unfold rdFrzc at h
 split at h
 ·rename_i x l1 hx
  split at h
  ·cases h
   exact ⟨l1,_,hx,rfl,rfl⟩
  ·cases h
 ·cases h
theorem own_den {e:Ty} {b:Nat} {xs:List e.Den} {l:List Nat} (h:(asDen (.slice e) (.own b (H b).gen)).run H=some (xs,l)):(H b).body=.arr e xs∨(H b).body=.froz e xs:=by
 simp only [asDen,asTop,Ty.isLeaf,if_true,asLeaf,Rd.run_get,Rd.run_ret] at h
 split at h
 ·rename_i e' ys hb
  simp only [Option.map_eq_some_iff,Prod.mk.injEq] at h
  obtain ⟨z,hz,rfl,_⟩:=h
  obtain ⟨ee,rfl⟩:=castDen_some hz
  cases ee
  exact .inl hb
 ·rename_i e' ys hb
  simp only [Option.map_eq_some_iff,Prod.mk.injEq] at h
  obtain ⟨z,hz,rfl,_⟩:=h
  obtain ⟨ee,rfl⟩:=castDen_some hz
  cases ee
  exact .inr hb
 ·cases h
theorem map_den {k v:Ty} {b:Nat} {xs:List (k.Den×v.Den)} {l:List Nat} (h:(asDen (.map k v) (.mapl b (H b).gen)).run H=some (xs,l)):(H b).body=.mp k v xs∨(H b).body=.frzm k v xs:=by
 simp only [asDen,asTop,Ty.isLeaf,if_true,asLeaf,Rd.run_get,Rd.run_ret] at h
 split at h
 ·rename_i k' v' ys hb
  simp only [Option.map_eq_some_iff,Prod.mk.injEq] at h
  obtain ⟨z,hz,rfl,_⟩:=h
  obtain ⟨ee,rfl⟩:=castDen_some hz
  cases ee
  exact .inl hb
 ·rename_i k' v' ys hb
  simp only [Option.map_eq_some_iff,Prod.mk.injEq] at h
  obtain ⟨z,hz,rfl,_⟩:=h
  obtain ⟨ee,rfl⟩:=castDen_some hz
  cases ee
  exact .inr hb
 ·cases h
theorem loc_den {t:Ty} {b:Nat} {x:Option t.Den} {l:List Nat} (h:(asDen (.ptr t) (.loc b (H b).gen 0)).run H=some (x,l)):(H b).body.isCells=true:=by
 simp only [asDen,asTop,asPtr,Rd.run_get,and_self,if_true] at h
 split at h
 ·rename_i hb;rw [hb];rfl
 ·rename_i hb;rw [hb];rfl
 ·cases h
theorem TB.rd_kind (t:TB) {b:Nat} {R:Type} {r:Option (R×List Nat)} {z:t.cons R} {l:List Nat} (h:t.rd H f b r=some (z,l)) :
  (∃ m,r=some ((t.body gId z).2,m)∧∀ c∈m,c∈l)∧Kind (H b).body (t.body gId z).1∧∀ k,(t.body gId z).1.owned k=true→t.isOwn=true:=by
 cases t with
 | cells t ts=>
  obtain ⟨c,e,hs,h⟩:=rdCells_some h
  refine ⟨rdL_shape ts h,?_,fun _ _=>rfl⟩
  rw [e]
  exact ⟨fun _=>rfl,fun h=>(by cases h),fun h=>(by cases h),fun h=>(by cases h),fun _ _=>rfl⟩
 | arr e=>
  obtain ⟨h1,h2⟩:=rdArr_some h
  refine ⟨⟨l,h1,fun _ h=>h⟩,?_,fun _ _=>rfl⟩
  rw [h2]
  exact Kind.refl _
 | froz e=>
  obtain ⟨l1,m,h1,h2,rfl⟩:=rdVal_some h
  refine ⟨⟨m,h2,fun _ h=>List.mem_append_right _ h⟩,?_,fun _ h=>(by cases h)⟩
  rcases own_den h1 with e | e<;>rw [e]
  ·exact ⟨fun h=>(by cases h),fun _=>⟨rfl,rfl,rfl⟩,fun h=>(by cases h),fun h=>(by cases h),fun _ h=>(by cases h)⟩
  ·exact Kind.refl _
 | mp k v=>
  obtain ⟨h1,h2⟩:=rdMp_some h
  refine ⟨⟨l,h1,fun _ h=>h⟩,?_,fun _ _=>rfl⟩
  rw [h2]
  exact Kind.refl _
 | frzm k v=>
  obtain ⟨l1,m,h1,h2,rfl⟩:=rdVal_some h
  refine ⟨⟨m,h2,fun _ h=>List.mem_append_right _ h⟩,?_,fun _ h=>(by cases h)⟩
  rcases map_den h1 with e | e<;>rw [e]
  ·exact ⟨fun h=>(by cases h),fun h=>(by cases h),fun _=>rfl,fun h=>(by cases h),fun _ h=>(by cases h)⟩
  ·exact Kind.refl _
 | whole t=>
  obtain ⟨c,e,h⟩:=rdWhole_some h
  obtain ⟨l1,m,h1,h2,rfl⟩:=rdVal_some h
  refine ⟨⟨m,h2,fun _ h=>List.mem_append_right _ h⟩,?_,fun _ _=>rfl⟩
  rw [e]
  exact ⟨fun _=>rfl,fun h=>(by cases h),fun h=>(by cases h),fun h=>(by cases h),fun _ _=>rfl⟩
 | frzc t=>
  obtain ⟨l1,m,h1,h2,rfl⟩:=rdFrzc_some h
  refine ⟨⟨m,h2,fun _ h=>List.mem_append_right _ h⟩,?_,fun _ h=>(by cases h)⟩
  exact ⟨fun _=>loc_den h1,fun h=>(by cases h),fun h=>(by cases h),fun h=>(by cases h),fun _ h=>(by cases h)⟩
 | it k v=>
  obtain ⟨h1,h2⟩:=rdIt_some h
  refine ⟨⟨l,h1,fun _ h=>h⟩,?_,fun _ _=>rfl⟩
  rw [h2]
  exact Kind.refl _
theorem TB.rd_closed (t:TB) {b:Nat} {R:Type} {r:Option (R×List Nat)} {z:t.cons R} {l:List Nat} (h:t.rd H f b r=some (z,l)) (hr:∀ y m,r=some (y,m)→Closed H m):Closed H l:=by
 cases t with
 | cells t ts=>obtain ⟨c,e,hs,h⟩:=rdCells_some h;exact rdL_closed ts h hr
 | arr e=>exact hr _ _ (rdArr_some h).1
 | froz e=>obtain ⟨l1,m,h1,h2,rfl⟩:=rdVal_some h;exact (asDen_closed h1).append (hr _ _ h2)
 | mp k v=>exact hr _ _ (rdMp_some h).1
 | frzm k v=>obtain ⟨l1,m,h1,h2,rfl⟩:=rdVal_some h;exact (asDen_closed h1).append (hr _ _ h2)
 | whole t=>obtain ⟨c,e,h⟩:=rdWhole_some h;obtain ⟨l1,m,h1,h2,rfl⟩:=rdVal_some h;exact (asDen_closed h1).append (hr _ _ h2)
 | frzc t=>obtain ⟨l1,m,h1,h2,rfl⟩:=rdFrzc_some h;exact (asDen_closed h1).append (hr _ _ h2)
 | it k v=>exact hr _ _ (rdIt_some h).1
theorem TB.rd_body (hB:∀ b,HB P H κ F w b) (hF:∀ r,F r→F' r) (hg:Reg f H H') (t:TB) {b:Nat} {R:Type} {r:Option (R×List Nat)} {z:t.cons R} {l:List Nat} (h:t.rd H f b r=some (z,l)) (hl:FzIn H κ F' l) :
  HBody P H' (fun b=>κ (f b)) F' w (κ b) (t.body gId z).1:=by
 have hb:=hB b
 unfold HB at hb
 cases t with
 | cells t ts=>
  obtain ⟨c,e,hs,h⟩:=rdCells_some h
  rw [e] at hb
  obtain ⟨cs,T,k1,k2,k3⟩:=hb
  obtain ⟨m,_,_,k4⟩:=rdL_ok (H':=H') hB hF hg ts h
  refine ⟨cs,T,k1,k2,fun i hi=>⟨?_,(k3 i hi).2⟩⟩
  have:=k4 hl i (by omega) _ (by rw [Nat.zero_add];exact (k3 i hi).1)
  exact this
 | arr e=>
  rw [(rdArr_some h).2] at hb
  refine ⟨hb.1,fun hn=>?_⟩
  obtain ⟨cs,T,h1,h2,h3,h4,h5⟩:=hb.2 hn
  exact ⟨cs,T,h1,h2,h3,h4,h5.mono hF (Ext.refl _ _)⟩
 | froz e=>
  obtain ⟨l1,m,h1,h2,rfl⟩:=rdVal_some h
  have hden:=own_den h1
  have hrv:=asDen_ok (v:=(κ b).slice (H b).body.len) hB hF h1 hl.left ⟨⟨Nat.le_refl _,by unfold KB.slice;split<;>rfl⟩,fun _ _=>rfl⟩
  have:=((RV_leaf rfl).1 hrv).2
  rcases hden with e' | e'<;>(rw [e'] at this;exact this)
 | mp k v=>
  rw [(rdMp_some h).2] at hb
  obtain ⟨ms,clk,h1,h2⟩:=hb
  exact ⟨ms,clk,h1,h2.mono hF (Ext.refl _ _)⟩
 | frzm k v=>
  obtain ⟨l1,m,h1,h2,rfl⟩:=rdVal_some h
  have hrv:=asDen_ok (v:=.map (some (κ b).blk)) hB hF h1 hl.left ⟨⟨Nat.le_refl _,rfl⟩,fun _ _=>rfl⟩
  exact ((RV_leaf rfl).1 hrv).2
 | whole t=>
  obtain ⟨c,e,h⟩:=rdWhole_some h
  rw [e] at hb
  obtain ⟨cs,T,k1,k2,k3⟩:=hb
  obtain ⟨l1,m,hx,_,rfl⟩:=rdVal_some h
  have hv:RA P H κ F w (.agg t.size c) (.agg cs):=⟨cs.toList,by simp,by simp [k2],fun j hj=>by
   have:=k3 j hj
   rw [Array.getD_eq_getD_getElem?] at this
   simpa [List.getD_eq_getElem?_getD] using this⟩
  have hrv:=asDen_ok (F':=F') hB hF hx hl.left hv
  have hal:=leafs_ok (P:=P) (H:=H') (κ:=fun b=>κ (f b)) t hrv.2
  refine ⟨cs,T,k1,k2,fun i hi=>⟨?_,(k3 i hi).2⟩⟩
  have:=(hal.nth i (by rw [hal.len];simpa [Value.cells,k2] using hi)).1
  rw [List.getD_eq_getElem?_getD] at this
  rw [Array.getD_eq_getD_getElem?]
  simpa [Value.cells] using this
 | frzc t=>
  obtain ⟨l1,m,h1,h2,rfl⟩:=rdFrzc_some h
  have hrv:=asDen_ok (v:=.pointer (some ⟨(κ b).blk,0,none⟩)) hB hF h1 hl.left ⟨⟨Nat.le_refl _,rfl⟩,fun _ _=>rfl⟩
  rcases ((RV_leaf rfl).1 hrv).2 with ⟨_,e⟩ | ⟨p,y,ds,e1,e2,h3,h4⟩
  ·cases e
  ·simp only [List.cons.injEq,Value.pointer.injEq,Option.some.injEq,and_true] at e1
   subst e1
   cases e2
   exact ⟨ds,h3,h4⟩
 | it k v=>
  rw [(rdIt_some h).2] at hb
  exact IterIs.mono hb hF (Ext.refl _ _) rfl
theorem rdB_kind:∀ (l:List (Nat×TB)) {x:blkDen l} {m:List Nat},rdB H f l=some (x,m)→∀ b,lookB (blksL gId l x) b=⟨0,.dead⟩∨
  ∃ bd,lookB (blksL gId l x) b=⟨0,bd⟩∧Kind (H (f b)).body bd∧∃ t,(b,t)∈l∧∀ k,bd.owned k=true→t.isOwn=true:=by
 intro l
 induction l with
 | nil=>intro x m _ b;exact .inl rfl
 | cons q l ih=>
  intro x m h b
  obtain ⟨q1,q2⟩:=q
  simp only [rdB] at h
  obtain ⟨⟨m',h1,h2⟩,h3,h4⟩:=TB.rd_kind q2 h
  by_cases e:b=q1
  ·subst e
   exact .inr ⟨_,by simp only [blksL,lookB,if_true],h3,q2,by simp,h4⟩
  ·rcases ih h1 b with k | ⟨bd,k1,k2,t,k3,k4⟩
   ·exact .inl (by simpa [blksL,lookB,e] using k)
   ·exact .inr ⟨bd,by simpa [blksL,lookB,e] using k1,k2,t,List.mem_cons_of_mem _ k3,k4⟩
theorem rdB_closed:∀ (l:List (Nat×TB)) {x:blkDen l} {m:List Nat},rdB H f l=some (x,m)→Closed H m:=by
 intro l
 induction l with
 | nil=>intro x m h;cases h;exact .nil H
 | cons q l ih=>intro x m h;exact TB.rd_closed q.2 h fun y m hm=>ih hm
theorem rdB_body (hB:∀ b,HB P H κ F w b) (hF:∀ r,F r→F' r) (hg:Reg f H H'):∀ (l:List (Nat×TB)) {x:blkDen l} {m:List Nat},rdB H f l=some (x,m)→FzIn H κ F' m→∀ b,HBody P H' (fun b=>κ (f b)) F' w (κ (f b)) (lookB (blksL gId l x) b).body:=by
 intro l
 induction l with
 | nil=>intro x m _ _ b;trivial
 | cons q l ih=>
  intro x m h hm b
  obtain ⟨q1,q2⟩:=q
  simp only [rdB] at h
  obtain ⟨⟨m',h1,h2⟩,_⟩:=TB.rd_kind q2 h
  by_cases e:b=q1
  ·subst e
   simp only [blksL,lookB,if_true]
   exact TB.rd_body hB hF hg q2 h hm
  ·have:=ih h1 (fun c hc=>hm c (h2 c hc)) b
   simpa [blksL,lookB,e] using this
theorem rdS_tr:∀ (ts:List (Nat×TAV)) {c:Nat→AV} {R:Type} {r:Option (R×List Nat)} {z:slotDen ts R} {l:List Nat},rdS H f ts c r=some (z,l)→∀ {i l' A L n st},look (slotsL gId ts z).1 i=.tr l' A L n st→c i=.tr l' A L n st:=by
 intro ts
 induction ts with
 | nil=>intro c R r z l _ i l' A L n st e;cases e
 | cons p ts ih=>
  intro c R r z l h i l' A L n st e
  obtain ⟨p1,t⟩:=p
  simp only [rdS] at h
  obtain ⟨m,h1,_⟩:=rd_shape t h
  simp only [slotsL,look] at e
  split at e
  ·rename_i ei
   subst ei
   cases t with
   | tr A'=>
    obtain ⟨_,h3⟩:=rdTr_some h
    rw [h3]
    exact e
   | _=>cases e
  ·exact ih h1 e
end
structure RdRes (C:Ctx) (s:AState) (a:Act) (w:World) (κ:Nat→KB) (f:Nat→Nat) (F':Nat→Prop) (sh:Shape) (σ:sh.Den) (fl:List Nat):Prop where
 slots:∀ i,RA C.P (sh.st σ).blk (fun b=>κ (f b)) F' w ((sh.st σ).slot i) (a.tmps.getD i Go.undef)
 blks:∀ b,HB C.P (sh.st σ).blk (fun b=>κ (f b)) F' w b
 owned:∀ b,((sh.st σ).blk b).body.owned (κ (f b))=true→f b ∉ fl∧(s.blk (f b)).body.owned (κ (f b))=true∧b∈sh.owns
 reg:Reg f s.blk (sh.st σ).blk
 tr:∀ l A L n st,(sh.st σ).slot TRS=.tr l A L n st→s.slot TRS=.tr l A L n st
theorem Shape.rdF_ok {C:Ctx} {sh:Shape} {f:Nat→Nat} {s:AState} {a:Act} {w:World} {κ:Nat→KB} {F:Nat→Prop} {σ:sh.Den} {fl:List Nat} (h:sh.rdF f s=some (σ,fl)) (hr:RelK C s a w κ F) :
  ∃ F',(∀ r,F r→F' r)∧RelK C (s.frz fl) a w κ F'∧RdRes C s a w κ f F' sh σ fl:=by
 unfold Shape.rdF at h
 split at h
 ·rename_i σ' fl' hrd
  split at h
  ·rename_i harr
   cases h
   obtain ⟨m,h1,hm⟩:=rdS_shape sh.slots hrd
   have hcl:Closed s.blk fl:=rdS_closed sh.slots hrd fun y m hm=>rdB_closed sh.blks hm
   obtain ⟨F',f1,hr',f2⟩:=RelK.frzL hcl hr
   have hkind:=rdB_kind sh.blks h1
   have hreg:Reg f s.blk (sh.st σ).blk:=by
    intro b
    show (lookB (blksL gId sh.blks (slotsL gId sh.slots σ).2) b).gen=0∧Kind (s.blk (f b)).body (lookB (blksL gId sh.blks (slotsL gId sh.slots σ).2) b).body
    rcases hkind b with e | ⟨bd,e,k,_⟩
    ·rw [e];exact ⟨rfl,Kind.dead _⟩
    ·rw [e];exact ⟨rfl,k⟩
   obtain ⟨m2,_,_,hslots⟩:=rdS_ok (F':=F') (w:=w) hr.blks f1 hreg sh.slots hrd
   refine ⟨F',f1,hr',{ slots:=fun i=>hslots f2 i _ (hr.slots i),blks:=fun b=>?_,owned:=fun b hb=>?_,reg:=hreg,tr:=fun l A L n st e=>rdS_tr sh.slots hrd e }⟩
   ·exact rdB_body hr.blks f1 hreg sh.blks h1 (fun c hc=>f2 c (hm c hc)) b
   ·have hk:=(hreg b).2.2.2.2.2 _ hb
    rcases hkind b with e | ⟨bd,e,_,t,ht,hto⟩
    ·have e:(sh.st σ).blk b=_:=e
     rw [e] at hb;cases hb
    ·have e:(sh.st σ).blk b=_:=e
     rw [e] at hb
     have hob:b∈sh.owns:=List.mem_filterMap.2 ⟨(b,t),ht,by simp [hto _ hb]⟩
     refine ⟨?_,hk,hob⟩
     have:=List.all_eq_true.1 harr b hob
     simpa using this
  ·cases h
 ·cases h
theorem RdRes.frzOwned {C:Ctx} {s:AState} {a:Act} {w:World} {κ:Nat→KB} {f:Nat→Nat} {F':Nat→Prop} {sh:Shape} {σ:sh.Den} {fl:List Nat} (h:RdRes C s a w κ f F' sh σ fl) {b:Nat} (hb:((sh.st σ).blk b).body.owned (κ (f b))=true) :
  ((s.frz fl).blk (f b)).body.owned (κ (f b))=true:=by
 obtain ⟨h1,h2,_⟩:=h.owned b hb
 simp only [AState.frz,if_neg h1]
 exact h2
theorem nilRow {C:Ctx} {s:AState} {a:Act} {w:World} {κ:Nat→KB} {F:Nat→Prop} (hr:RelK C s a w κ F) {b:Nat} {e:Ty} :
  RelK C (s.setB b ⟨(s.blk b).gen+1,.arr e []⟩) a w (fun i=>if i=b then ⟨0,0,0,true⟩ else κ i) F:=
 hr.renew (k:=⟨0,0,0,true⟩) (Nat.lt_succ_self _) (.inl rfl) (Nat.le_refl _) (fun _ _=>rfl) (fun h=>by cases h) (Calm.refl _) fun _ _=>⟨fun _=>rfl,fun h=>by cases h⟩
theorem nilSlot_ok {C:Ctx} {bs:List (Nat×TB)} {s:AState} {a:Act} {w:World} {κ:Nat→KB} {F:Nat→Prop} (hr:RelK C s a w κ F) (i b:Nat):∃ κ',RelK C (nilSlot bs s i b) a w κ' F:=by
 unfold nilSlot
 split
 ·rename_i e hs _ _
  have h:=nilRow hr (b:=b) (e:=e)
  refine ⟨_,{ h with slots:=fun j=>?_,tsz:=h.tsz,dfr:=h.dfr,blks:=h.blks,pro:=fun l A L n st e'=>?_ }⟩
  ·show RA C.P _ _ F w (if j=i then .own b ((s.blk b).gen+1) else s.slot j) _
   split
   ·rename_i e
    subst e
    have hv:=hr.slots j
    rw [hs] at hv
    have hv:a.tmps.getD j undef=.slice none 0 0:=hv
    rw [hv]
    exact ⟨⟨by simp [AState.setB],rfl⟩,fun _ _=>by simp [KB.slice]⟩
   ·exact h.slots j
  ·have e':(if TRS=i then .own b ((s.blk b).gen+1) else s.slot TRS)=.tr l A L n st:=e'
   split at e'
   ·cases e'
   ·exact h.pro l A L n st e'
 ·exact ⟨κ,hr⟩
theorem nilCell_ok {C:Ctx} {bs:List (Nat×TB)} {s:AState} {a:Act} {w:World} {κ:Nat→KB} {F:Nat→Prop} (hr:RelK C s a w κ F) (c j b:Nat):∃ κ',RelK C (nilCell bs s c j b) a w κ' F:=by
 unfold nilCell
 split
 ·rename_i t f hc
  split
  ·rename_i e hf hd _
   have hbc:c≠b:=fun e=>by rw [←e,hc] at hd;cases hd
   have h:=nilRow hr (b:=b) (e:=e)
   have hbl:(s.setB b ⟨(s.blk b).gen+1,.arr e []⟩).blk c=s.blk c:=by simp [AState.setB,hbc]
   have hB:=h.blks c
   unfold HB at hB
   rw [hbl,hc] at hB
   obtain ⟨cs,T,h1,h2,h3⟩:=hB
   refine ⟨_,h.write (w':=w) (b:=c) (x:=⟨(s.blk c).gen,.cells t fun q=>if q=j then .own b ((s.blk b).gen+1) else f q⟩) (by rw [hbl,hc];rfl) rfl
    (later_same (by rw [hbl]) (fun _=>by rw [hbl,hc];rfl) (fun h=>by cases h) (fun h=>by cases h) (fun h=>by cases h)) (fun _=>by rw [hbl,hc];rfl) (fun h=>by cases h) (fun _ _=>rfl) rfl (Calm.refl _) fun H hH hl _=>?_⟩
   refine ⟨cs,T,h1,h2,fun q hq=>⟨?_,(h3 q hq).2⟩⟩
   show RA C.P H _ F w (if q=j then .own b ((s.blk b).gen+1) else f q) _
   split
   ·rename_i eq
    subst eq
    have hv:=(h3 q hq).1
    rw [hf] at hv
    have hv:cs.getD q undef=.slice none 0 0:=hv
    rw [hv]
    have hHb:H b=⟨(s.blk b).gen+1,.arr e []⟩:=by rw [hH];simp [AState.setB,Ne.symm hbc]
    exact ⟨⟨by rw [hHb];exact Nat.le_refl _,rfl⟩,fun _ _=>by rw [hHb];simp [KB.slice]⟩
   ·exact RA.later hl (fun _ h=>h) (Ext.refl _ _) (h3 q hq).1
  ·exact ⟨κ,hr⟩
 ·exact ⟨κ,hr⟩
theorem nilp_ok {C:Ctx} (sh:Shape) {s:AState} {a:Act} {w:World} {κ:Nat→KB} {F:Nat→Prop} (hr:RelK C s a w κ F):∃ κ',RelK C (sh.nilp s) a w κ' F:=by
 have h1:∀ (l:List (Nat×TAV)) (s:AState) (κ:Nat→KB),RelK C s a w κ F→∃ κ',RelK C (nilSlots sh.blks l s) a w κ' F:=by
  intro l
  induction l with
  | nil=>intro s κ h;exact ⟨κ,h⟩
  | cons p l ih=>
   intro s κ h
   simp only [nilSlots]
   split
   ·obtain ⟨κ',h'⟩:=nilSlot_ok (bs:=sh.blks) h p.1 _
    exact ih _ _ h'
   ·exact ih _ _ h
 have h2:∀ (c:Nat) (l:List TAV) (j:Nat) (s:AState) (κ:Nat→KB),RelK C s a w κ F→∃ κ',RelK C (nilCells sh.blks c l j s) a w κ' F:=by
  intro c l
  induction l with
  | nil=>intro j s κ h;exact ⟨κ,h⟩
  | cons t l ih=>
   intro j s κ h
   simp only [nilCells]
   split
   ·obtain ⟨κ',h'⟩:=nilCell_ok (bs:=sh.blks) h c j _
    exact ih _ _ _ h'
   ·exact ih _ _ _ h
 have h3:∀ (l:List (Nat×TB)) (s:AState) (κ:Nat→KB),RelK C s a w κ F→∃ κ',RelK C (nilBlks sh.blks l s) a w κ' F:=by
  intro l
  induction l with
  | nil=>intro s κ h;exact ⟨κ,h⟩
  | cons p l ih=>
   intro s κ h
   simp only [nilBlks]
   split
   ·obtain ⟨κ',h'⟩:=h2 p.1 _ 0 s κ h
    exact ih _ _ h'
   ·exact ih _ _ h
 obtain ⟨κ1,hr1⟩:=h1 sh.slots s κ hr
 exact h3 sh.blks _ _ hr1
theorem lookB_in:∀ (l:List (Nat×TB)) (x:blkDen l) (b:Nat),(lookB (blksL gId l x) b).body.isArr=true→∃ q∈l,q.1=b∧q.2.isRow=true
 | [],_,_,h=>by cases h
 | p::l,x,b,h=>by
  simp only [blksL,lookB] at h
  by_cases e:b=p.1
  ·rw [if_pos e] at h
   refine ⟨p,by simp,e.symm,?_⟩
   obtain ⟨p1,t⟩:=p
   cases t<;>first | rfl | cases h
  ·rw [if_neg e] at h
   obtain ⟨q,h1,h2⟩:=lookB_in l _ b h
   exact ⟨q,List.mem_cons_of_mem _ h1,h2⟩
theorem Shape.rd_okK {C:Ctx} {sh:Shape} {s:AState} {a:Act} {w:World} {σ:sh.Den} {κ:Nat→KB} {F:Nat→Prop} (h:sh.rd s=some σ) (hr:RelK C s a w κ F):∃ κ' F',(∀ r,F r→F' r)∧RelK C (sh.st σ) a w κ' F':=by
  obtain ⟨κ,hr⟩:=nilp_ok sh hr
  unfold Shape.rd at h
  generalize sh.nilp s=s at h hr
  split at h
  case h_2=>cases h
  rename_i hfr
  simp only [Option.map_eq_some_iff] at h
  obtain ⟨⟨σ',fl⟩,h,rfl⟩:=h
  obtain ⟨F',f1,hr',hd⟩:=Shape.rdF_ok h hr
  have hown:=fun b hb=>hd.frzOwned (b:=b) hb
  exact ⟨κ, F', f1, { hr' with
    tsz:=hr'.tsz,dfr:=hr'.dfr,slots:=hd.slots,blks:=hd.blks,own:=fun b hb=>hr'.own b (hown b hb),inj:=fun b b' hb hb'=>hr'.inj b b' (hown b hb) (hown b' hb')
    anch:=fun b r hr hc=>hr'.anch b r hr (hc.imp (fun hc=>by
      have h0:=(hd.reg b).2.1 hc
      simp only [AState.frz]
      split
      · rcases fz_cases s.blk (s.blk b) with e | ⟨_,_,hx,_⟩ | ⟨_,_,_,hx,_⟩ | ⟨_,_,_,_,_,_,e⟩
        · rw [e];exact h0
        · rw [hx] at h0;cases h0
        · rw [hx] at h0;cases h0
        · rw [e];rfl
      · exact h0) (fun hc=>by
      have h0:=(hd.reg b).2.2.2.1 hc
      simp only [AState.frz]
      split
      · rcases fz_cases s.blk (s.blk b) with e | ⟨_,_,hx,_⟩ | ⟨_,_,_,_,e⟩ | ⟨_,_,_,_,hx,_,_⟩
        · rw [e];exact h0
        · rw [hx] at h0;cases h0
        · rw [e];rfl
        · rw [hx] at h0;cases h0
      · exact h0))
    anA:=fun b k hk _ ha=>by
      obtain ⟨a1,a2,_⟩:=(hd.reg b).2.2.1 ha
      have hg:(s.blk b).gen=0:=by
        rcases lookB_in sh.blks (slotsL gId sh.slots σ').2 b ha with ⟨q,hq,rfl,hrow⟩
        have:=List.all_eq_true.1 hfr q hq
        rw [hrow] at this
        have hge:=hr.ara _ k hk
        simpa [hge] using this
      obtain ⟨k1,k2⟩:=hr.anA b k hk hg a1
      exact ⟨k1,a2.trans k2⟩
    pro:=fun l A L n st e=>by
      obtain ⟨h1,h2,Y,h3,h4,h5⟩:=hr'.pro l A L n st (hd.tr l A L n st e)
      exact ⟨h1,h2,Y,h3,fun b hb=>h4 b (hown b hb),h5⟩ }⟩
theorem Shape.rd_ok {C:Ctx} {sh:Shape} {s:AState} {a:Act} {w:World} {σ:sh.Den} (h:sh.rd s=some σ) (hr:Rel C s a w):Rel C (sh.st σ) a w:=by
 obtain ⟨κ,F,hr⟩:=hr
 obtain ⟨κ',F',_,hr'⟩:=Shape.rd_okK h hr
 exact ⟨κ',F',hr'⟩
end Go.Fer
namespace Go.Fer
open Go.RowKit
def ProgOk (C:Ctx) (o:Oper) (s:AState) (pr:PRes):Prop:=
 ∀ (a:Act) (w:World) (Q:Exit→Act→World→Prop) (K:Act→World→Prop),Rel C s a w→pr.ob→M.Ret pr.m (fun y=>∀ a' w',Rel C (pr.st y) a' w'→K a' w')→o.wpIn (rnd C.r) 0 C.P a w K Q
def GOk (C:Ctx) (o:Oper) (s:AState) (pr:PRes):Prop:=
 ∀ gs,pr.gst=some gs→(∀ y a w,Rel C (pr.st y) a w→Rel C (gs true y) a w)∧∀ a w,Rel C s a w→Rel C (gs false pr.d) (a.put o.dst Go.undef) w
structure PrOk (C:Ctx) (o:Oper) (s:AState) (pr:PRes):Prop where
 prog:ProgOk C o s pr
 grd:GOk C o s pr
 free:UseOk (opAV C.ft s.slot) o→pr.ob
theorem Rel.reslot {C:Ctx} {s:AState} {d:Option Nat} {av av':AV} {a:Act} {w:World} (h:Rel C (s.set d av) a w)
  (hd:∀ i,d=some i→i<C.nt) (hv:∀ κ F v,RA C.P s.blk κ F w av v→RA C.P s.blk κ F w av' v):Rel C (s.set d av') a w:=by
 cases d with
 | none=>exact h
 | some d=>
  obtain ⟨κ,F,h⟩:=h
  have hn:=h.nsz
  have hd':=hd d rfl
  have ht:TRS≠d:=by unfold TRS TMAX at *;omega
  refine ⟨κ,F,{ h with slots:=fun i=>?_,tsz:=h.tsz,dfr:=h.dfr,blks:=h.blks,pro:=fun l A L n st e=>h.pro l A L n st ?_ }⟩
  ·have hi:=h.slots i
   simp only [AState.set] at hi ⊢
   by_cases e:i=d
   ·rw [if_pos e] at hi ⊢;exact hv κ F _ hi
   ·rw [if_neg e] at hi ⊢;exact hi
  ·simp only [AState.set,if_neg ht] at e ⊢
   exact e
section
variable {C:Ctx} {T:Nat→Ty} {Φ:Nat→Option FC} {o:Oper} {s:AState}
theorem args_free {args:List Operand} (hb:UseOk (opAV C.ft s.slot) o) (ha:∀ x∈args,x∈o.op.operands.toList):usesObL (args.map (opAV C.ft s.slot)):=
 usesObL_free fun v hv=>by
  simp only [List.mem_map] at hv
  obtain ⟨p,hp,rfl⟩:=hv
  exact hb p (ha p hp)
theorem grd_after (hdst:∀ i,o.dst=some i→i<C.nt) {tr:Ty} {fl:List Nat} (hcl:Closed s.blk fl) {d:tr.Den} :
  (∀ (y:tr.Den) a w,Rel C (afterCall s o tr fl (resV tr y)) a w→Rel C (afterCall s o tr fl (.whn true (resV tr y))) a w)∧∀ a w,Rel C s a w→Rel C (afterCall s o tr fl (.whn false (resV tr d))) (a.put o.dst Go.undef) w:=by
 refine ⟨fun y a w h=>Rel.reslot h hdst fun κ F v hv=>⟨fun _=>hv,fun h=>(by cases h)⟩,fun a w h=>?_⟩
 obtain ⟨κ,F,hr⟩:=h
 obtain ⟨F',_,hr',_⟩:=RelK.frzL hcl hr
 unfold afterCall
 split
 ·exact ⟨κ,F,hr.set hdst ⟨fun h=>(by cases h),fun _=>rfl⟩⟩
 ·exact ⟨κ,F',hr'.set hdst ⟨fun h=>(by cases h),fun _=>rfl⟩⟩
theorem scI_ok (hdst:∀ i,o.dst=some i→i<C.nt) {k:Nat} {args:Array Operand} {tys:Array TypeId} (ho:o.op=.call { callee:=.value (.func k),args:=args,argTypes:=tys }) {sc:SC} (hf:FnSpec C.P k sc.ts sc.tr sc.sh) {pr:PRes}
  (h:scI C.ft s o args.toList sc=some pr):PrOk C o s pr:=by
 unfold scI at h
 split at h
 ·rename_i x fl hx
  cases h
  refine ⟨fun a w Q K hr hob hm=>?_,fun gs hgs=>?_,fun hb=>args_free hb fun x hx=>by rw [ho];simp [Op.operands,Call.operands];simp_all⟩
  ·obtain ⟨κ,F,hr⟩:=hr
   exact call_ok hr hf hdst ho hob hx hm.1 fun y w' hy v hrel=>hm.2 y hy _ _ hrel
  ·cases hgs
   exact grd_after hdst (asArgs_closed _ hx)
 ·cases h
theorem fnI_ok (hdst:∀ i,o.dst=some i→i<C.nt) {t:Nat} {args:Array Operand} {tys:Array TypeId} (ho:o.op=.call { callee:=.value (.tmp t),args:=args,argTypes:=tys }) {pr:PRes}
  (h:fnI C.ft s o t args.toList=some pr):PrOk C o s pr:=by
 unfold fnI at h
 split at h
 ·rename_i ob A b f hu
  split at h
  ·rename_i x fl hx
   cases h
   obtain ⟨args⟩:=args
   refine ⟨fun a w Q K hr hob hm=>?_,fun gs hgs=>?_,fun hb=>⟨?_,args_free hb fun x hx=>by rw [ho];simp [Op.operands,Call.operands];simp_all⟩⟩
   ·obtain ⟨κ,F,hr⟩:=hr
    obtain ⟨F',f1,hr',f2⟩:=RelK.frzL (asArgs_closed _ hx) hr
    have hargs:RArgs C.P A F' w (args.map a.eval) x:=by
     refine asArgs_ok hr.blks f1 A hx f2 (by simp) fun i hi hi'=>?_
     simp only [List.getElem_map]
     have hi2:i<args.length:=by simpa using hi'
     have h1:=usesObL_spec hob.2 i (by simpa using hi2)
     have e1:(args.map (opAV C.ft s.slot)).getD i .undef=opAV C.ft s.slot args[i]:=by simp [List.getD_eq_getElem?_getD,hi2]
     rw [show (List.map (opAV C.ft s.slot) (⟨args⟩:Array Operand).toList)=args.map (opAV C.ft s.slot) from rfl,e1] at h1
     exact use_ok (opAV_ok hr args[i]) h1
    have hfv:RA C.P s.blk κ F w (use (opAV C.ft s.slot (.tmp t))).2 (a.eval (.tmp t)):=use_op hr (.tmp t) hu hob.1 |> fun h=>by
     have e:use (opAV C.ft s.slot (.tmp t))=(ob,.val (.fn A b) f):=hu
     rw [e];exact h
    have e:use (opAV C.ft s.slot (.tmp t))=(ob,.val (.fn A b) f):=hu
    rw [e] at hfv
    obtain ⟨_,u,hu',_,hfn⟩:=(RV_leaf rfl).1 hfv
    have hu':a.eval (.tmp t)=u:=(List.cons.inj hu').1
    obtain ⟨g,caps,hg,hent,hcalls⟩:=hfn F' w f1 (Ext.refl _ _) hr'.fsz (args.map a.eval) x hargs.1 hargs.2 hm.1
    have hrun:(execOp a.eval o).run C.P w=.ok (.enter g ((args.map a.eval).toArray++caps)) w:=by
     have hv:a.eval (.tmp t)=.func (.func g) #[] caps:=hu'.trans hg
     simp only [execOp,ho,Sem.run_bind,resolve,hv,Deferred.ofValue,Sem.run_pure,Result.andThen_ok,invoke]
     have:=hent ((args.map a.eval).toArray++caps) w
     simpa using this
    refine oper_call (by rw [ho];intro c hc;cases hc) hrun hcalls fun e w' ⟨v,y,vs,he,hy,h1,h2,h3,hb⟩=>⟨v,he,hm.2 y hy _ _ ?_⟩
    have hres:RRes C.P b (Grow F' w w') w' v y:=⟨vs,h1,h2,h3⟩
    unfold afterCall
    by_cases hp:b.pure=true
    ·rw [if_pos hp]
     have hg:=hr.grow hb
     refine ⟨κ,_,hg.set hdst (resV_ok ?_)⟩
     exact ⟨vs,h1,RArgs_pure hp ⟨h2,h3⟩⟩
    ·rw [if_neg hp]
     have hg:=hr'.grow hb
     exact ⟨κ,_,hg.set hdst (resV_ok hres)⟩
   ·cases hgs
    exact grd_after hdst (asArgs_closed _ hx)
   ·have:=hb (.tmp t) (by rw [ho];simp [Op.operands,Call.operands])
    have e:use (opAV C.ft s.slot (.tmp t))=(ob,.val (.fn A b) f):=hu
    rw [e] at this
    exact this
  ·cases h
 ·cases h
theorem rangeI_ok (hT:TabOk C.P T) (hdst:∀ i,o.dst=some i→i<C.nt) {ty:TypeId} {x:Operand} (ho:o.op=.range ty x) {pr:PRes} (h:rangeI C.ft T s o ty x=some pr):PrOk C o s pr:=by
 unfold rangeI at h
 split at h
 ·rename_i k v d ht hd
  split at h
  rename_i ob av hu
  split at h
  ·rename_i es fl hes
   split at h
   ·cases h
   ·rename_i hnd
    cases h
    have hnd:d ∉ fl:=by simpa using hnd
    obtain ⟨i,j,hi,_,_⟩:=(hT.is ht (by simp)).mp
    refine ⟨fun a w Q K hr hob hm=>?_,fun gs hgs=>(by cases hgs),fun hb=>UseOk.use hb (by rw [ho];simp [Op.operands]) hu⟩
    obtain ⟨κ,F,hr⟩:=hr
    obtain ⟨F',f1,hr',f2⟩:=RelK.frzL (asDen_closed hes) hr
    have hv:=use_op hr x hu hob
    have hrc:=((RV_leaf rfl).1 (asDen_ok hr.blks f1 hes f2 hv)).2
    have hK:=hm.2 () rfl
    have hbf:(s.frz fl).blk d=s.blk d:=by simp only [AState.frz];rw [if_neg hnd]
    have fin:∀ (it:Obj),(∀ w',w'=w.alloc it→IterIs C.P k v F' w' w.heap.size none es)→(execOp a.eval o).run C.P w=.ok (.value (.pointer (some ⟨w.heap.size,0,none⟩))) (w.alloc it)→o.wpIn (rnd C.r) 0 C.P a w K Q:=by
     intro it hit hrun
     have h1:=hr'.alloc (b:=d) (x:=⟨(s.blk d).gen+1,.it k v none es⟩) (hr.small (hdst d hd)) (by rw [hbf];exact Nat.lt_succ_self _) (o:=it) (k:=⟨w.heap.size,0,0,false⟩) rfl fun H κ' _ _ _=>hit _ rfl
     refine oper_value (by rw [ho];intro c hc;cases hc) hrun (hK _ _ ⟨_,F',RelK.set (s:=(s.frz fl).setB d _) h1 hdst ⟨⟨by simp [AState.setB],rfl⟩,fun _ _=>by simp⟩⟩)
    rcases hrc with ⟨e1,rfl⟩ | ⟨r,ms,clk,e1,m1,m2,m3,m4,m5,m6⟩
    ·have hx:a.eval x=.map none:=(List.cons.inj e1).1
     refine fin (.mapIter none 0 #[] 0) (fun w' hw=>.inl ⟨by rw [hw];exact heap_alloc_new _ _,rfl,rfl⟩) ?_
     simp [execOp,ho,Instr.range,run_underlying' hi,hx]
    ·have hx:a.eval x=.map (some r):=(List.cons.inj e1).1
     refine fin (.mapIter (some r) clk #[] clk) (fun w' hw=>.inr ⟨r,ms,clk,#[],m1,?_,by rw [hw];exact heap_alloc_new _ _,fun i hi=>(m5 i (by omega) hi).2.2.2.2,m6,?_,fun c hc=>by cases hc⟩) ?_
     ·rw [hw,heap_alloc_lt _ _ (hr'.fsz r m1)];exact m2
     ·refine ⟨List.range ms.size,by simp [m3],List.nodup_range,fun i=>by simp,fun j hj hj'=>?_⟩
      have hjm:j<ms.size:=by simpa using hj
      obtain ⟨k1,k2,k3,k4,_⟩:=m5 j hj' hjm
      refine ⟨by simpa using hjm,?_⟩
      simp only [List.getElem_range]
      have he:Ext F' w w':=by rw [hw];exact Ext.alloc hr'.fsz _
      exact EntIs.mono ⟨k1,k2,k3,k4⟩ (fun _ h=>h) he
     ·have hget:(getObj r).run C.P w=.ok (.map ms clk) w:=by simp [getObj,Sem.run,m2]
      simp [execOp,ho,Instr.range,run_underlying' hi,hx,hget]
  ·cases h
 ·cases h
theorem entryI_ok (hdst:∀ i,o.dst=some i→i<C.nt) {x:Operand} (ho:o.op=.entry x) {pr:PRes} (h:entryI C.ft s o x=some pr):PrOk C o s pr:=by
 unfold entryI at h
 split at h
 ·rename_i b g hx
  split at h
  ·rename_i hg
   split at h
   ·rename_i k v c rest hb
    cases h
    refine ⟨fun a w Q K hr _ hm=>?_,fun gs hgs=>(by cases hgs),fun _=>trivial⟩
    obtain ⟨κ,F,hr⟩:=hr
    have hv:=opAV_ok hr x
    rw [hx] at hv
    have hv:=hv.2 hg.symm (by rw [hb];rfl)
    have hB:=hr.blks b
    unfold HB at hB
    rw [hb] at hB
    have hm':=M.ret_req.1 hm
    have hK:=M.ret_pure.1 hm'.2
    obtain ⟨c',hc'⟩:=Option.isSome_iff_exists.1 hm'.1
    subst hc'
    rcases hB with ⟨_,_,e⟩ | ⟨mr,es,clk,seen,h1,h2,h3,h4,h5,_,h7⟩
    ·cases e
    ·obtain ⟨i,hi,hs,he⟩:=h7 c' rfl
     have hfind:es.find? (fun e=>e.born == es[i].born)=some es[i]:=by
      rw [←Array.find?_toList]
      have hmem:es[i]∈es.toList:=by simp
      cases hf:es.toList.find? (fun e=>e.born == es[i].born) with
      | none=>have:=List.find?_eq_none.1 hf _ hmem;simp at this
      | some e=>
       have h8:=List.find?_some hf
       have h9:=List.mem_of_find?_eq_some hf
       obtain ⟨j,hj,rfl⟩:=List.mem_iff_getElem.1 h9
       have hj':j<es.size:=by simpa using hj
       have:j=i:=h5 j i hj' hi (by simpa using h8)
       subst this
       simp
     have hg1:(getObj (κ b).blk).run C.P w=.ok (.mapIter (some mr) clk seen clk) w:=by simp [getObj,Sem.run,h3]
     have hg2:(getObj mr).run C.P w=.ok (.map es clk) w:=by simp [getObj,Sem.run,h2]
     have hrun:(execOp a.eval o).run C.P w=.ok (.value (.tuple #[es[i].key,es[i].val])) w:=by
      simp [execOp,ho,Instr.entry,hv,hg1,hg2,hs,hfind]
     refine oper_value (by rw [ho];intro c hc;cases hc) hrun (hK _ _ ⟨κ,F,hr.set hdst ⟨[es[i].key,es[i].val],rfl,rfl,fun n hn=>?_⟩⟩)
     match n,hn with
     | 0,_=>exact ⟨he.1,he.2.1⟩
     | 1,_=>exact ⟨he.2.2.1,he.2.2.2⟩
   ·cases h
  ·cases h
 ·cases h
theorem iter_left {es:Array MapEntry} {seen:Array Nat} {clk:Nat} (h4:∀ i (h:i<es.size),es[i].born<clk) :
  (es.filter fun e=>!seen.contains e.born).filter (fun e=>decide (e.born<clk))=(es.filter fun e=>!seen.contains e.born)∧(es.filter fun e=>!seen.contains e.born).filter (fun e=>decide (e.born≥clk))=#[]:=by
 have hall:∀ e∈es.filter fun e=>!seen.contains e.born,e.born<clk:=by
  intro e he
  have:=(Array.mem_filter.1 he).1
  obtain ⟨i,hi,rfl⟩:=Array.mem_iff_getElem.1 this
  exact h4 i hi
 constructor
 ·exact Array.filter_eq_self.2 fun e he=>by simpa using hall e he
 ·exact Array.filter_eq_empty_iff.2 fun e he=>by have:=hall e he;simp;omega
theorem choose_run (P:Program) (w:World) (n:Nat):∃ j w',(choose (.mapNext n)).run P w=.ok j w'∧(0<n→j<n)∧(w'=w∨w'=w.drew):=by
 rw [run_choose]
 by_cases h:n≤1
 ·have:(Question.mapNext n).forced=true:=by simp [Question.forced,h]
  rw [this]
  exact ⟨0,w,rfl,id,.inl rfl⟩
 ·have:(Question.mapNext n).forced=false:=by simp [Question.forced];omega
  rw [this]
  exact ⟨_,_,rfl,fun hn=>Nat.mod_lt _ hn,.inr rfl⟩
theorem nextI_ok (hdst:∀ i,o.dst=some i→i<C.nt) {x:Operand} {str:Bool} (ho:o.op=.next x str) {pr:PRes} (h:nextI C.ft s o x str=some pr):PrOk C o s pr:=by
  unfold nextI at h
  split at h
  · rename_i b g hx
    split at h
    · rename_i hg
      split at h
      · rename_i k v c rest hb
        cases h
        refine ⟨fun a w Q K hr _ hm=>?_,fun gs hgs=>(by cases hgs),fun _=>trivial⟩
        obtain ⟨κ,F,hr⟩:=hr
        have hv:=opAV_ok hr x
        rw [hx] at hv
        have hv:=hv.2 hg.symm (by rw [hb];rfl)
        have hB:=hr.blks b
        unfold HB at hB
        rw [hb] at hB
        have hd:∀ c,o.op≠.defer c:=by rw [ho];intro c hc;cases hc
        have over:∀ w',(w'=w∨w'=w.drew)→rest=[]→(execOp a.eval o).run C.P w=.ok (.value (.tuple #[.bool false])) w'→o.wpIn (rnd C.r) 0 C.P a w K Q:=by
          intro w' hw' hrest hrun
          have hr2:RelK C s a w' κ F:=by
            rcases hw' with rfl | rfl
            · exact hr
            · exact hr.drew
          have hsb:s.setB b ⟨g,.it k v c rest⟩=s:=by
            unfold AState.setB
            congr 1
            funext i
            by_cases hi:i=b
            · rw [if_pos hi,hi,←hb,←hg]
            · rw [if_neg hi]
          refine oper_value hd hrun (hm.2 none hrest _ _ ⟨κ,F,RelK.set (s:=s.setB b ⟨g,.it k v c rest⟩) (by rw [hsb];exact hr2) hdst ⟨[.bool false],rfl,rfl,fun n hn=>?_⟩⟩)
          have:n=0:=by simp only [nxtN] at hn;omega
          subst this
          exact RV_bool.2 rfl
        rcases hB with ⟨h1,h2,_⟩ | ⟨mr,es,clk,seen,h1,h2,h3,h4,h5,⟨ids,i1,i2,i3,i4⟩,h7⟩
        · refine over w (.inl rfl) h2 ?_
          have hg1:(getObj (κ b).blk).run C.P w=.ok (.mapIter none 0 #[] 0) w:=by simp [getObj,Sem.run,h1]
          simp [execOp,ho,Instr.next,hv,hg1]
        · have hg1:(getObj (κ b).blk).run C.P w=.ok (.mapIter (some mr) clk seen clk) w:=by simp [getObj,Sem.run,h3]
          have hg2:(getObj mr).run C.P w=.ok (.map es clk) w:=by simp [getObj,Sem.run,h2]
          obtain ⟨f1,f2⟩:=iter_left (seen:=seen) h4
          have hall:(!seen.isEmpty&&!es.isEmpty&&es.all (fun e=>decide (e.born≥clk)))=false:=by
            by_cases he:es.size=0
            · have:es=#[]:=Array.eq_empty_of_size_eq_zero he
              simp [this]
            · have:es.all (fun e=>decide (e.born≥clk))=false:=by
                rw [Array.all_eq_false]
                exact ⟨0,by omega,by have:=h4 0 (by omega);simp;omega⟩
              rw [this];simp
          generalize hleft:(es.filter fun e=>!seen.contains e.born)=left at f1 f2
          have hcand:((if left.isEmpty=true then #[none] else #[])++Array.map some (left++(#[]:Array MapEntry)))=(if left.isEmpty=true then #[none] else Array.map some left):=by
            split
            · rename_i hl
              have:left=#[]:=by simpa using hl
              simp [this]
            · simp
          obtain ⟨j,w',c1,c2,c3⟩:=choose_run C.P w (if left.isEmpty=true then #[none] else Array.map some left).size
          have hh:w'.heap=w.heap:=by rcases c3 with rfl | rfl<;>rfl
          have hrun0 : ∀ r w2, (match (if left.isEmpty = true then #[none] else Array.map some left)[j]? with
                | some (some e)=>(do setObj (κ b).blk (.mapIter (some mr) clk (seen.push e.born) clk);pure (.tuple #[.bool true,e.key,e.val]):Sem Value)
                | some none=>pure (.tuple #[.bool false])
                | none => stuck "Next: no such candidate").run C.P w' = .ok r w2 → (execOp a.eval o).run C.P w = .ok (.value r) w2 := by
            intro r w2 hr2
            simp only [execOp,ho,Instr.next,hv,Sem.run_bind,hg1,Result.andThen_ok,hg2,hall,Bool.false_eq_true,if_false,hleft,f1,f2,hcand,c1]
            exact (congrArg (fun (z:Result Value)=>z.andThen fun v w'=>Sem.run C.P (Pure.pure (Next.value v)) w') hr2).trans rfl
          by_cases hle:left.isEmpty=true
          · have hl0:left=#[]:=by simpa using hle
            have hrest:rest=[]:=by
              have:ids=[]:=List.eq_nil_iff_forall_not_mem.2 fun i hi=>by
                obtain ⟨hi1,hi2⟩:=(i3 i).1 hi
                have:es[i]∈left:=by
                  rw [←hleft]
                  exact Array.mem_filter.2 ⟨by simp,by simpa using hi2⟩
                rw [hl0] at this
                simp at this
              rw [this] at i1
              exact List.eq_nil_of_length_eq_zero i1.symm
            rw [hle] at hrun0 c2
            simp only [if_true] at hrun0 c2
            have hj:j=0:=by have:=c2 (by simp);simp at this;exact this
            subst hj
            exact over w' c3 hrest (hrun0 _ _ rfl)
          · have hle:left.isEmpty=false:=by simpa using hle
            rw [hle] at hrun0 c2
            simp only [Bool.false_eq_true,if_false] at hrun0 c2
            have hlp:0<left.size:=by
              rcases Nat.eq_zero_or_pos left.size with h0 | h0
              · have:=Array.eq_empty_of_size_eq_zero h0
                rw [this] at hle;simp at hle
              · exact h0
            have hj:j<left.size:=by have:=c2 (by simpa using hlp);simpa using this
            have hmem:left[j]∈(es.filter fun e=>!seen.contains e.born):=by rw [hleft];simp
            obtain ⟨hme,hms⟩:=Array.mem_filter.1 hmem
            obtain ⟨i0,hi0,he0⟩:=Array.mem_iff_getElem.1 hme
            have hi0m:i0∈ids:=(i3 i0).2 ⟨hi0,by rw [he0];simpa using hms⟩
            obtain ⟨q,hq,hqe⟩:=List.mem_iff_getElem.1 hi0m
            have hqr:q<rest.length:=by omega
            have hset:(setObj (κ b).blk (.mapIter (some mr) clk (seen.push left[j].born) clk)).run C.P w'=.ok () { w' with heap:=w'.heap.setIfInBounds (κ b).blk (.mapIter (some mr) clk (seen.push left[j].born) clk) }:=by
              simp [setObj,Sem.run,hh,h3]
            have hrun:=hrun0 (.tuple #[.bool true,left[j].key,left[j].val]) { w' with heap:=w'.heap.setIfInBounds (κ b).blk (.mapIter (some mr) clk (seen.push left[j].born) clk) } (by
              rw [show (Array.map some left)[j]?=some (some left[j]) by simp [hj]]
              simp only [Sem.run_bind,hset,Result.andThen_ok,Sem.run_pure])
            have hcm:Calm w w':=by rcases c3 with rfl | rfl<;>exact ⟨rfl,rfl,rfl⟩
            have hlt:(κ b).blk<w.heap.size:=(Array.getElem?_eq_some_iff.1 h3).1
            have hne:mr≠(κ b).blk:=fun e=>(hr.own b (by rw [hb];rfl)).2.1 (e ▸ h1)
            have hl2:Later s.blk κ (fun i=>if i=b then (⟨g,.it k v rest[q]? (rest.eraseIdx q)⟩:ABlk) else s.blk i) κ:=
              later_same hg.symm (fun h=>by cases h) (fun h=>by cases h) (fun h=>by cases h) (fun _=>by rw [hb];rfl)
            have hw2:=hr.write (b:=b) (x:=⟨g,.it k v rest[q]? (rest.eraseIdx q)⟩) (w':={ w' with heap:=w'.heap.setIfInBounds (κ b).blk (.mapIter (some mr) clk (seen.push left[j].born) clk) }) (by rw [hb];rfl) rfl hl2 (fun h=>by cases h) (fun h=>by cases h)
              (fun r hrb=>by simp only [hh];exact Array.getElem?_setIfInBounds_ne (Ne.symm hrb)) (by simp [hh]) ⟨hcm.os,hcm.tape,hcm.output⟩ fun H _ _ he=>by
                refine .inr ⟨mr,es,clk,seen.push left[j].born,h1,?_,by simp [hh,hlt],h4,h5,⟨ids.eraseIdx q,?_,?_,fun i=>?_,fun n hn hn'=>?_⟩,fun c' hc'=>?_⟩
                · rw [←h2];simp only [hh];exact Array.getElem?_setIfInBounds_ne (Ne.symm hne)
                · rw [List.length_eraseIdx,List.length_eraseIdx,i1]
                · exact i2.sublist (List.eraseIdx_sublist _ _)
                · rw [List.mem_eraseIdx_iff_getElem]
                  constructor
                  · rintro ⟨n,hn,hnq,rfl⟩
                    obtain ⟨u1,u2⟩:=(i3 ids[n]).1 (by simp)
                    refine ⟨u1,?_⟩
                    simp only [Array.contains_push,Bool.or_eq_false_iff]
                    refine ⟨u2,?_⟩
                    rw [←he0]
                    simp only [beq_eq_false_iff_ne,ne_eq]
                    intro e
                    have:ids[n]=i0:=h5 _ _ u1 hi0 (by first | exact e | exact e.symm)
                    exact hnq ((List.getElem?_inj hn i2).1 (by rw [List.getElem?_eq_getElem hn,List.getElem?_eq_getElem hq,this,hqe]))
                  · rintro ⟨u1,u2⟩
                    simp only [Array.contains_push,Bool.or_eq_false_iff] at u2
                    obtain ⟨n,hn,rfl⟩:=List.mem_iff_getElem.1 ((i3 i).2 ⟨u1,u2.1⟩)
                    refine ⟨n,hn,fun e=>?_,rfl⟩
                    subst e
                    have h0:=u2.2
                    have:es[ids[n]]=es[i0]:=by congr 1
                    rw [this,he0] at h0
                    simp at h0
                · have hnn:(ids.eraseIdx q)[n]=if h:n<q then ids[n]'(by rw [List.length_eraseIdx] at hn;split at hn<;>omega) else ids[n+1]'(by rw [List.length_eraseIdx] at hn;split at hn<;>omega):=by
                    rw [List.getElem_eraseIdx]
                  have hnr:(rest.eraseIdx q)[n]=if h:n<q then rest[n]'(by rw [List.length_eraseIdx] at hn';split at hn'<;>omega) else rest[n+1]'(by rw [List.length_eraseIdx] at hn';split at hn'<;>omega):=by
                    rw [List.getElem_eraseIdx]
                  have hlen:n+1<ids.length:=by rw [List.length_eraseIdx] at hn;split at hn<;>omega
                  by_cases hnq:n<q
                  · obtain ⟨u1,u2⟩:=i4 n (by omega) (by omega)
                    simp only [hnn,hnr,hnq,dif_pos]
                    exact ⟨u1,u2.mono (fun _ h=>h) he⟩
                  · obtain ⟨u1,u2⟩:=i4 (n+1) hlen (by omega)
                    simp only [hnn,hnr,hnq,dif_neg,not_false_eq_true]
                    exact ⟨u1,u2.mono (fun _ h=>h) he⟩
                · rw [List.getElem?_eq_getElem hqr] at hc'
                  cases hc'
                  obtain ⟨u1,u2⟩:=i4 q hq hqr
                  refine ⟨i0,hi0,by simp [he0],?_⟩
                  have e1:es[ids[q]]=es[i0]:=by congr 1
                  rw [e1] at u2
                  exact u2.mono (fun _ h=>h) he
            refine oper_value hd hrun (hm.2 (some q) hqr _ _ ⟨κ,F,RelK.set (s:=s.setB b _) hw2 hdst ⟨[.bool true,left[j].key,left[j].val],rfl,rfl,fun n hn=>?_⟩⟩)
            match n,hn with
            | 0,_=>exact RV_bool.2 rfl
            | 1,_=>trivial
            | 2,_=>trivial
      · cases h
    · cases h
  · cases h
end
end Go.Fer
namespace Go.Fer
open Go.RowKit
def GV:List (Option Nat)→List Value→List Value→Prop
 | [],[],vs=>vs=[]
 | none::g,u::us,vs=>∃ vs',vs=u::vs'∧GV g us vs'
 | some n::g,u::us,vs=>∃ cs vs',u=.agg cs∧cs.size=n∧(∀ c∈cs.toList,c.oneCell'=true)∧vs=cs.toList++vs'∧GV g us vs'
 | _,_,_=>False
def GrpVal (g:List (Option Nat)) (v:Value) (vs:List Value):Prop:=∃ us:List Value,us.length=g.length∧v=(if us.length=1 then us.getD 0 undef else .tuple us.toArray)∧GV g us vs
structure IoSpec (P:Program) (U:FnTab) (k:FuncId) (c:IOC):Prop where
 enter:∀ args w,(callFunc k args).run P w=.ok (.enter k args) w
 calls:∀ (C:Ctx) (a:Act) (w:World) (κ:Nat→KB) (F:Nat→Prop) (σ:c.sin.Den),C.P=P→C.w0=w→C.r=none→C.dfr=[]→C.nt=c.nargs→C.ft=U→RelK C (c.sin.st σ) a w κ F→(c.sh σ).safe→
  Calls P k a.tmps w fun e w'=>∃ v τ vs κ' F',e=.returned v∧(c.sh σ).out τ∧GrpVal c.grp v vs∧RelK { C with nt:=vs.length } (c.out.st τ) { tmps:=vs.toArray,defers:=[] } w' κ' F'
section
variable {P:Program} {H H':Nat→ABlk} {κ κ':Nat→KB} {F:Nat→Prop} {w:World} {g:Nat→Nat×Nat}
def Lk (H H':Nat→ABlk) (κ κ':Nat→KB) (g:Nat→Nat×Nat):Prop:=∀ b,(H b).gen=0∧Later1 ⟨(g b).2,(H b).body⟩ (H' (g b).1) (κ b) (κ' (g b).1)
theorem Lk.loc (h:Lk H H' κ κ' g) {b off:Nat} {v:Value} (hv:RA P H κ F w (.loc b 0 off) v):RA P H' κ' F w (.loc (g b).1 (g b).2 off) v:=by
 obtain ⟨h0,k1,k2⟩:=h b
 refine ⟨⟨k1,hv.1.2⟩,fun hg hc=>?_⟩
 obtain ⟨c1,c2⟩:=(k2 hg).1 hc
 rw [c2]
 exact hv.2 h0.symm c1
theorem Lk.av (h:Lk H H' κ κ' g) (t:TAV) {R:Type} (z:t.cons R) {v:Value} (hv:RA P H κ F w (t.av gId z).1 v):RA P H' κ' F w (t.av g z).1 v:=by
 cases t with
 | undef=>trivial
 | val t=>exact hv
 | pp t=>exact hv
 | loc b off=>exact h.loc hv
 | own b=>
  obtain ⟨h0,k1,k2⟩:=h b
  refine ⟨⟨k1,hv.1.2⟩,fun hg hc=>?_⟩
  obtain ⟨c1,c2,c3,c4⟩:=(k2 hg).2.1 hc
  rw [c2,c3]
  exact hv.2 h0.symm c1
 | sub b=>
  obtain ⟨h0,k1,k2⟩:=h b
  refine ⟨⟨k1,hv.1.2⟩,fun hg hc=>?_⟩
  obtain ⟨c1,c2,c3,c4⟩:=(k2 hg).2.1 hc
  rw [c2,c3,c4]
  exact hv.2 h0.symm c1
 | mapl b=>
  obtain ⟨h0,k1,k2⟩:=h b
  refine ⟨⟨k1,hv.1.2⟩,fun hg hc=>?_⟩
  obtain ⟨c1,c2⟩:=(k2 hg).2.2.1 hc
  rw [c2]
  exact hv.2 h0.symm c1
 | iter b=>
  obtain ⟨h0,k1,k2⟩:=h b
  refine ⟨⟨k1,hv.1.2⟩,fun hg hc=>?_⟩
  obtain ⟨c1,c2⟩:=(k2 hg).2.2.2 hc
  rw [c2]
  exact hv.2 h0.symm c1
 | nils=>exact hv
 | clo k ls=>
  obtain ⟨vs,h1,h2,h3⟩:=hv
  refine ⟨vs,h1,h2,fun i hi=>?_⟩
  have:=h3 i hi
  have e1:cloCaps gId ls i=.loc ls[i].1 0 ls[i].2:=by simp [cloCaps,nthAV,List.getD_eq_getElem?_getD,hi,gId]
  have e2:cloCaps g ls i=.loc (g ls[i].1).1 (g ls[i].1).2 ls[i].2:=by simp [cloCaps,nthAV,List.getD_eq_getElem?_getD,hi]
  rw [e1] at this
  rw [e2]
  exact h.loc this
 | row bs=>
  obtain ⟨vs,h1,h2,h3⟩:=hv
  refine ⟨vs,h1,h2,fun i hi=>?_⟩
  obtain ⟨this,hc'⟩:=h3 i hi
  refine ⟨?_,hc'⟩
  have e1:rowAV gId bs i=.own bs[i] 0:=by simp [rowAV,nthAV,List.getD_eq_getElem?_getD,hi,gId]
  have e2:rowAV g bs i=.own (g bs[i]).1 (g bs[i]).2:=by simp [rowAV,nthAV,List.getD_eq_getElem?_getD,hi]
  rw [e1] at this
  rw [e2]
  obtain ⟨h0,k1,k2⟩:=h bs[i]
  refine ⟨⟨k1,this.1.2⟩,fun hg hc=>?_⟩
  obtain ⟨c1,c2,c3,c4⟩:=(k2 hg).2.1 hc
  rw [c2,c3]
  exact this.2 h0.symm c1
 | tr A=>trivial
 | yld=>exact hv
theorem av_rest (t:TAV) {R:Type} (z:t.cons R):(t.av g z).2=(t.av gId z).2:=by cases t<;>rfl
theorem avL_rest:∀ (ts:List TAV) {R:Type} (z:consL ts R),(avL g ts z).2=(avL gId ts z).2
 | [],_,_=>rfl
 | t::ts,_,z=>by simp only [avL];rw [av_rest (g:=g) t z];exact avL_rest ts _
theorem body_rest (t:TB) {R:Type} (z:t.cons R):(t.body g z).2=(t.body gId z).2:=by
 cases t with
 | cells t l=>exact avL_rest l z
 | _=>rfl
theorem slotsL_rest:∀ (ts:List (Nat×TAV)) {R:Type} (z:slotDen ts R),(slotsL g ts z).2=(slotsL gId ts z).2
 | [],_,_=>rfl
 | p::ts,_,z=>by simp only [slotsL];rw [av_rest (g:=g) p.2 z];exact slotsL_rest ts _
theorem Lk.avs (h:Lk H H' κ κ' g):∀ (ts:List TAV) {R:Type} (z:consL ts R) (i:Nat) {v:Value},RA P H κ F w ((avL gId ts z).1.getD i .undef) v→RA P H' κ' F w ((avL g ts z).1.getD i .undef) v
 | [],_,_,i,v,_=>by simp [avL,RA]
 | t::ts,_,z,i,v,hv=>by
  simp only [avL] at hv ⊢
  cases i with
  | zero=>exact h.av t z hv
  | succ i=>
   simp only [List.getD_cons_succ] at hv ⊢
   rw [av_rest (g:=g) t z]
   exact h.avs ts _ i hv
theorem Lk.slots (h:Lk H H' κ κ' g):∀ (ts:List (Nat×TAV)) {R:Type} (z:slotDen ts R) (i:Nat) {v:Value},RA P H κ F w (look (slotsL gId ts z).1 i) v→RA P H' κ' F w (look (slotsL g ts z).1 i) v
 | [],_,_,i,v,_=>by simp [slotsL,look,RA]
 | p::ts,_,z,i,v,hv=>by
  simp only [slotsL,look] at hv ⊢
  by_cases e:i=p.1
  ·rw [if_pos e] at hv ⊢
   exact h.av p.2 z hv
  ·rw [if_neg e] at hv ⊢
   rw [av_rest (g:=g) p.2 z]
   exact h.slots ts _ i hv
theorem slots_tr:∀ (ts:List (Nat×TAV)) {R:Type} (z:slotDen ts R) (i:Nat) {l A L n st},look (slotsL g ts z).1 i=.tr l A L n st→look (slotsL gId ts z).1 i=.tr l A L n st
 | [],_,_,i,_,_,_,_,_,h=>by simp [slotsL,look] at h
 | p::ts,_,z,i,l,A,L,n,st,h=>by
  simp only [slotsL,look] at h ⊢
  by_cases e:i=p.1
  ·rw [if_pos e] at h ⊢
   obtain ⟨p1,t⟩:=p
   cases t<;>first | exact h | cases h
  ·rw [if_neg e] at h ⊢
   rw [av_rest (g:=g) p.2 z] at h
   exact slots_tr ts _ i h
def SameB (x y:Body):Prop:=x.isCells=y.isCells∧x.isArr=y.isArr∧x.len=y.len∧x.esz=y.esz∧x.isMap=y.isMap∧x.isIt=y.isIt∧∀ k,x.owned k=y.owned k
theorem SameB.refl (x:Body):SameB x x:=⟨rfl,rfl,rfl,rfl,rfl,rfl,fun _=>rfl⟩
theorem body_same (t:TB) {R:Type} (z:t.cons R):SameB (t.body g z).1 (t.body gId z).1:=by
 cases t with
 | cells t l=>exact ⟨rfl,rfl,rfl,rfl,rfl,rfl,fun _=>rfl⟩
 | _=>exact SameB.refl _
theorem leafs_any:∀ (t:Ty) (x:t.Den) (av:AV),av∈leafs t x→∀ {v:Value},RA P H κ F w av v→RA P H' κ' F w av v:=by
  intro t
  induction t with
  | unit=>intro x av h;cases h
  | st t ih=>intro x av h;exact ih x av h
  | prod a b iha ihb=>
   intro x av h
   rcases List.mem_append.1 h with h | h
   ·exact iha _ av h
   ·exact ihb _ av h
  | array n e ih=>
   intro x av h
   simp only [leafs,List.mem_flatMap] at h
   obtain ⟨i,_,h⟩:=h
   exact ih _ av h
  | _=>
   intro x av h v hv
   simp only [leafs,List.mem_singleton] at h
   subst h
   exact hv
theorem Lk.body (h:Lk H H' κ κ' g) (t:TB) {R:Type} (z:t.cons R) {k:KB} (hb:HBody P H κ F w k (t.body gId z).1):HBody P H' κ' F w k (t.body g z).1:=by
 cases t with
 | cells t l=>
  obtain ⟨cs,T,h1,h2,h3⟩:=hb
  exact ⟨cs,T,h1,h2,fun i hi=>⟨h.avs l z i (h3 i hi).1,(h3 i hi).2⟩⟩
 | whole t=>
  obtain ⟨cs,T,h1,h2,h3⟩:=hb
  refine ⟨cs,T,h1,h2,fun i hi=>⟨?_,(h3 i hi).2⟩⟩
  have:=(h3 i hi).1
  unfold nthAV at this ⊢
  rw [List.getD_eq_getElem?_getD] at this ⊢
  cases hl:(leafs t z.1)[i]? with
  | none=>trivial
  | some av=>
   rw [hl] at this
   simp only [Option.getD_some] at this ⊢
   have hmem:=List.mem_of_getElem? hl
   exact leafs_any t z.1 av hmem this
 | arr e=>exact hb
 | froz e=>exact hb
 | mp k v=>exact hb
 | frzm k v=>exact hb
 | frzc t=>exact hb
 | it k v=>exact hb
theorem lookB_rest {l:List (Nat×TB)} {x y:blkDen l} (h:x=y) (g:Nat→Nat×Nat) (b:Nat):lookB (blksL g l x) b=lookB (blksL g l y) b:=by rw [h]
theorem lookB_same:∀ (l:List (Nat×TB)) (x:blkDen l) (b:Nat),SameB (lookB (blksL g l x) b).body (lookB (blksL gId l x) b).body
 | [],_,_=>SameB.refl _
 | p::l,x,b=>by
  simp only [blksL,lookB]
  split
  ·exact body_same p.2 x
  ·rw [body_rest (g:=g) p.2 x];exact lookB_same l _ b
theorem Lk.blks (h:Lk H H' κ κ' g):∀ (l:List (Nat×TB)) (x:blkDen l) (b:Nat) {k:KB},HBody P H κ F w k (lookB (blksL gId l x) b).body→HBody P H' κ' F w k (lookB (blksL g l x) b).body
 | [],_,_,k,_=>trivial
 | p::l,x,b,k,hb=>by
  simp only [blksL,lookB] at hb ⊢
  split
  ·rename_i e
   rw [if_pos e] at hb
   exact h.body p.2 x hb
  ·rename_i e
   rw [if_neg e] at hb
   rw [body_rest (g:=g) p.2 x]
   exact h.blks l _ b hb
theorem lookB_gen:∀ (l:List (Nat×Body)) (b:Nat),(lookB l b).gen=0
 | [],_=>rfl
 | p::l,b=>by
  simp only [lookB]
  split
  ·rfl
  ·exact lookB_gen l b
end
end Go.Fer
namespace Go.Fer
open Go.RowKit
theorem find_key {α:Type} {k:α→Nat}:∀ {l:List α},(l.map k).Nodup→∀ {p:α},p∈l→l.find? (fun q=>k q == k p)=some p
 | [],_,_,h=>by cases h
 | a::l,hn,p,h=>by
  simp only [List.map_cons,List.nodup_cons] at hn
  by_cases e:k a=k p
  ·rcases List.mem_cons.1 h with rfl | h
   ·simp
   ·exact (hn.1 (e ▸ List.mem_map_of_mem h)).elim
  ·rw [List.find?_cons_of_neg (by simpa using e)]
   rcases List.mem_cons.1 h with rfl | h
   ·exact (e rfl).elim
   ·exact find_key hn.2 h
theorem key_inj {α:Type} {k:α→Nat} {l:List α} (hn:(l.map k).Nodup) {p q:α} (hp:p∈l) (hq:q∈l) (e:k p=k q):p=q:=by
 have h1:=find_key hn hp
 rw [e,find_key hn hq] at h1
 exact (Option.some.inj h1).symm
theorem lookG_mem:∀ {l:List (Nat×(Nat×Nat))},(l.map (·.1)).Nodup→∀ {p},p∈l→lookG l p.1=p.2
 | [],_,_,h=>by cases h
 | a::l,hn,p,h=>by
  simp only [List.map_cons,List.nodup_cons] at hn
  simp only [lookG]
  by_cases e:p.1=a.1
  ·rw [if_pos e]
   rcases List.mem_cons.1 h with rfl | h
   ·rfl
   ·exact (hn.1 (e ▸ List.mem_map_of_mem h)).elim
  ·rw [if_neg e]
   rcases List.mem_cons.1 h with rfl | h
   ·exact (e rfl).elim
   ·exact lookG_mem hn.2 h
theorem lookG_not:∀ {l:List (Nat×(Nat×Nat))} {b:Nat},b ∉ l.map (·.1)→lookG l b=(DEADB,0)
 | [],_,_=>rfl
 | a::l,b,h=>by
  simp only [List.map_cons,List.mem_cons,not_or] at h
  simp only [lookG]
  rw [if_neg h.1]
  exact lookG_not h.2
theorem outG_ids (s:AState) (d:Nat) (f:Nat→Nat) (ins:List Nat):∀ (l:List (Nat×TB)) (j:Nat),(outG s d f ins l j).map (·.1)=l.map (·.1)
 | [],_=>rfl
 | p::l,j=>by
  simp only [outG,List.map_cons,outG_ids s d f ins l (j+1)]
  split<;>rfl
theorem outG_mem (s:AState) (d:Nat) (f:Nat→Nat) (ins:List Nat):∀ (l:List (Nat×TB)) (j:Nat) {p:Nat×(Nat×Nat)},p∈outG s d f ins l j→
  (p.1∈ins∧p.2.1=f p.1∧∃ t,(p.1,t)∈l∧((p.2.2=(s.blk (f p.1)).gen∧((∀ (g:Nat→Nat×Nat) (R:Type) (z:t.cons R),(t.body g z).1.isArr=false)∨(KEEPB≤p.1∧∃ e,t=.arr e)))∨p.2.2=(s.blk (f p.1)).gen+1))∨
  (p.1 ∉ ins∧p.2.2=(s.blk p.2.1).gen+1∧50000+10*d+j≤p.2.1∧p.2.1<50000+10*d+j+l.length)
 | [],_,p,h=>by cases h
 | q::l,j,p,h=>by
  simp only [outG,List.mem_cons] at h
  rcases h with h | h
  ·by_cases hq:ins.contains q.1=true
   ·rw [if_pos hq] at h
    subst h
    refine .inl ⟨by simpa using hq,rfl,q.2,by simp,?_⟩
    obtain ⟨q1,t⟩:=q
    cases t with
    | arr e=>
     by_cases hk:KEEPB≤q1
     ·exact .inl ⟨by simp [hk],.inr ⟨hk,e,rfl⟩⟩
     ·exact .inr (by simp [hk])
    | _=>first | exact .inr rfl | exact .inl ⟨rfl,.inl fun _ _ _=>rfl⟩
   ·rw [if_neg hq] at h
    subst h
    refine .inr ⟨by simpa using hq,rfl,by simp,by simp⟩
  ·rcases outG_mem s d f ins l (j+1) h with ⟨h1,h2,t,h3,h4⟩ | ⟨h1,h2,h3,h4⟩
   ·exact .inl ⟨h1,h2,t,List.mem_cons_of_mem _ h3,h4⟩
   ·exact .inr ⟨h1,h2,by omega,by simp only [List.length_cons];omega⟩
theorem lookB_cases (g:Nat→Nat×Nat):∀ (l:List (Nat×TB)) (x:blkDen l) (b:Nat),(lookB (blksL g l x) b=⟨0,.dead⟩∧b ∉ l.map (·.1))∨∃ q∈l,q.1=b∧∃ (R:Type) (z:q.2.cons R),lookB (blksL g l x) b=⟨0,(q.2.body g z).1⟩
 | [],_,_=>.inl ⟨rfl,by simp⟩
 | p::l,x,b=>by
  simp only [blksL,lookB]
  by_cases e:b=p.1
  ·rw [if_pos e]
   exact .inr ⟨p,by simp,e.symm,_,x,rfl⟩
  ·rw [if_neg e]
   rcases lookB_cases g l (p.2.body g x).2 b with ⟨h1,h2⟩ | ⟨q,h1,h2⟩
   ·exact .inl ⟨h1,by rw [List.map_cons,List.mem_cons,not_or];exact ⟨e,h2⟩⟩
   ·exact .inr ⟨q,List.mem_cons_of_mem _ h1,h2⟩
theorem kin_body {t u:TB} (h:t.kin u=true) {g g':Nat→Nat×Nat} {R R':Type} (z:t.cons R) (z':u.cons R') :
  ((t.body g z).1.isCells=true→(u.body g' z').1.isCells=true∧∀ k,(u.body g' z').1.owned k=true)∧((t.body g z).1.isMap=true→(u.body g' z').1.isMap=true∧∀ k,(u.body g' z').1.owned k=true)∧(t.body g z).1.isIt=false:=by
 cases t<;>cases u<;>first
  | exact Bool.noConfusion h
  | exact ⟨fun _=>⟨rfl,fun _=>rfl⟩,fun h=>Bool.noConfusion h,rfl⟩
  | exact ⟨fun h=>Bool.noConfusion h,fun _=>⟨rfl,fun _=>rfl⟩,rfl⟩
  | exact ⟨fun h=>Bool.noConfusion h,fun h=>Bool.noConfusion h,rfl⟩
theorem look_none:∀ (ts:List (Nat×TAV)) {R:Type} (g:Nat→Nat×Nat) (z:slotDen ts R) (i:Nat),ts.any (fun p=>p.1 == i)=false→look (slotsL g ts z).1 i=.undef
 | [],_,_,_,_,_=>rfl
 | p::ts,_,g,z,i,h=>by
  simp only [List.any_cons,Bool.or_eq_false_iff,beq_eq_false_iff_ne] at h
  simp only [slotsL,look]
  rw [if_neg (Ne.symm h.1)]
  exact look_none ts g _ i h.2
theorem grp_ok {P:Program} {H:Nat→ABlk} {κ:Nat→KB} {F:Nat→Prop} {w:World}:∀ (g:List (Option Nat)) {us vs:List Value},GV g us vs→∀ (c:Nat→AV) (i:Nat),(∀ j,j<vs.length→RA P H κ F w (c (i+j)) (vs.getD j undef))→
  (grpAV g c i).length=g.length∧us.length=g.length∧∀ j,j<g.length→RA P H κ F w ((grpAV g c i).getD j .undef) (us.getD j undef)
 | [],[],vs,_,_,_,_=>⟨rfl,rfl,fun j hj=>by cases hj⟩
 | [],_::_,_,h,_,_,_=>h.elim
 | none::g,[],_,h,_,_,_=>h.elim
 | some n::g,[],_,h,_,_,_=>h.elim
 | none::g,u::us,vs,h,c,i,hv=>by
  obtain ⟨vs',rfl,h⟩:=h
  obtain ⟨h1,h2,h3⟩:=grp_ok g h c (i+1) fun j hj=>by
   have:=hv (j+1) (by simpa using hj)
   rw [show i+(j+1)=i+1+j by omega] at this
   simpa using this
  refine ⟨by simp [grpAV,h1],by simp [h2],fun j hj=>?_⟩
  cases j with
  | zero=>simpa [grpAV] using hv 0 (by simp)
  | succ j=>simpa [grpAV] using h3 j (by simpa using hj)
 | some n::g,u::us,vs,h,c,i,hv=>by
  obtain ⟨cs,vs',rfl,hn,hone,rfl,h⟩:=h
  obtain ⟨h1,h2,h3⟩:=grp_ok g h c (i+n) fun j hj=>by
   have:=hv (n+j) (by simp only [List.length_append,Array.length_toList];omega)
   rw [show i+(n+j)=i+n+j by omega] at this
   have e:(cs.toList++vs').getD (n+j) undef=vs'.getD j undef:=by
    rw [List.getD_eq_getElem?_getD,List.getD_eq_getElem?_getD,List.getElem?_append_right (by simp;omega)]
    congr 2
    simp;omega
   rw [e] at this
   exact this
  refine ⟨by simp [grpAV,h1],by simp [h2],fun j hj=>?_⟩
  cases j with
  | zero=>
   simp only [grpAV,List.getD_cons_zero]
   refine ⟨cs.toList,by simp,by simpa using hn,fun j hj=>?_⟩
   have hj':j<cs.size:=by omega
   have:=hv j (by simp;omega)
   have e:(cs.toList++vs').getD j undef=cs.toList.getD j undef:=by
    rw [List.getD_eq_getElem?_getD,List.getD_eq_getElem?_getD,List.getElem?_append_left (by simpa using hj')]
   rw [e] at this
   refine ⟨this,?_⟩
   rw [List.getD_eq_getElem?_getD,List.getElem?_eq_getElem (by simpa using hj')]
   exact hone _ (List.getElem_mem _)
  | succ j=>simpa [grpAV] using h3 j (by simpa using hj)
theorem grpVal_ok {P:Program} {H:Nat→ABlk} {κ:Nat→KB} {F:Nat→Prop} {w:World} {g:List (Option Nat)} {v:Value} {vs:List Value} (h:GrpVal g v vs) {c:Nat→AV} (hv:∀ j,RA P H κ F w (c j) (vs.getD j undef)) :
  RA P H κ F w (grpRes (grpAV g c 0)) v:=by
 obtain ⟨us,h1,h2,h3⟩:=h
 obtain ⟨k1,_,k3⟩:=grp_ok g h3 c 0 (fun j _=>by simpa using hv j)
 subst h2
 generalize grpAV g c 0=l at k1 k3
 unfold grpRes
 split
 ·rename_i av
  have:us.length=1:=by rw [h1,←k1];rfl
  rw [if_pos this]
  have:=k3 0 (by rw [←k1];simp)
  simpa using this
 ·rename_i hl
  have hne:us.length≠1:=fun e=>by
   have:l.length=1:=by omega
   match l,this with
   | [x],_=>exact hl x rfl
  rw [if_neg hne]
  refine ⟨us,rfl,by omega,fun i hi=>?_⟩
  unfold nthAV
  exact k3 i (by omega)
end Go.Fer
namespace Go.Fer
open Go.RowKit
section
variable {C:Ctx} {s:AState} {a:Act} {w:World} {κ:Nat→KB} {F:Nat→Prop}
theorem RelK.args (hr:RelK C s a w κ F) {avs:List AV} {us:List Value} (hn:us.length≤TMAX) (hl:avs.length=us.length) (hv:∀ i,i<us.length→RA C.P s.blk κ F w (avs.getD i .undef) (us.getD i undef)) :
    RelK { C with nt:=us.length,dfr:=[],r:=none } (argSt s avs) { tmps:=us.toArray,defers:=[] } w κ F:=
  { hr with
    tsz:=by simp,dfr:=rfl,nsz:=hn
    slots:=fun i=>by
      show RA C.P s.blk κ F w (if i=TRS then s.slot TRS else if i<avs.length then avs.getD i .undef else .undef) (us.toArray.getD i undef)
      split
      · rename_i e
        subst e
        have h1:=hr.slots TRS
        have h2:a.tmps.getD TRS undef=undef:=by
          have:=hr.tsz;have:=hr.nsz
          rw [Array.getD_eq_getD_getElem?,Array.getElem?_eq_none (by unfold TRS TMAX at *;omega)];rfl
        have h3:us.toArray.getD TRS undef=undef:=by
          rw [Array.getD_eq_getD_getElem?,Array.getElem?_eq_none (by simp only [List.size_toArray];unfold TRS TMAX at *;omega)];rfl
        rw [h2] at h1
        rw [h3]
        exact h1
      · split
        · rename_i hi
          simpa [Array.getD_eq_getD_getElem?,List.getD_eq_getElem?_getD] using hv i (by omega)
        · trivial
    blks:=hr.blks
    pro:=fun l A L n st e=>hr.pro l A L n st (by simpa [argSt] using e) }
def ioC (C:Ctx) (w:World) (F':Nat→Prop) (n:Nat) (own Y:Nat→Prop) (an:(Nat→Option Nat)×(Nat→Option (KB×Nat))):Ctx:=
 { C with w0:=w,F0:=F',K0:=fun r=>r<w.heap.size∧¬own r∧¬Y r,nt:=n,dfr:=[],r:=none,an:=an.1,ana:=an.2 }
structure YPart (C:Ctx) (s:AState) (w:World) (κ:Nat→KB) (F:Nat→Prop) (sl:AV) (Y:Nat→Prop):Prop where
 pro:∀ l A L n st,sl=.tr l A L n st→(∃ I,C.pr=⟨l,A,L,I⟩)∧C.pr.Ok C.P∧C.pr.at A n st F Y w
 low:∀ r,Y r→r<w.heap.size∧¬F r∧¬C.K0 r
 own:∀ b,(s.blk b).body.owned (κ b)=true→¬Y (κ b).blk
 non:sl=.undef→∀ r,¬Y r
theorem RelK.ypart (hr:RelK C s a w κ F) {sl:AV} (h:∀ l A L n st,sl=.tr l A L n st→s.slot TRS=.tr l A L n st):∃ Y,YPart C s w κ F sl Y:=by
 by_cases hs:∃ l A L n st,sl=.tr l A L n st
 ·obtain ⟨l,A,L,n,st,e⟩:=hs
  obtain ⟨h1,h2,Y,h3,h4,h5⟩:=hr.pro l A L n st (h _ _ _ _ _ e)
  refine ⟨Y,⟨fun l' A' L' n' st' e'=>?_,h3,h4,fun e'=>?_⟩⟩
  ·rw [e] at e';cases e';exact ⟨h1,h2,h5⟩
  ·rw [e] at e';cases e'
 ·exact ⟨fun _=>False,⟨fun l A L n st e=>(hs ⟨l,A,L,n,st,e⟩).elim,fun _ h=>h.elim,fun _ _ h=>h,fun _ _ h=>h⟩⟩
theorem io_enter {C1:Ctx} {s1:AState} {a1:Act} {F':Nat→Prop} {fl:List Nat} {f:Nat→Nat} {sh:Shape} {σ:sh.Den} {Y:Nat→Prop} {ids:List Nat} (hP:C1.P=C.P) (hft:C1.ft=C.ft) (hd0:C1.dfr=[])
  (hr1:RelK C1 (s1.frz fl) a1 w κ F') (hd:RdRes C1 s1 a1 w κ f F' sh σ fl) (hY:YPart C (s1.frz fl) w κ F' ((sh.st σ).slot TRS) Y)
  (hf:∀ b b',b∈sh.owns→b'∈sh.owns→f b=f b'→b=b') (hid:∀ b∈ids,TMAX≤b) :
  RelK (ioC C w F' C1.nt (fun r=>∃ b,((sh.st σ).blk b).body.owned (κ (f b))=true∧(κ (f b)).blk=r) Y (fun b=>if b∈ids then some (κ (f b)).blk else none,fun b=>if b∈ids∧KEEPB≤b then some (κ (f b),((sh.st σ).blk b).body.len) else none)) (sh.st σ) a1 w (fun b=>κ (f b)) F' where
 tsz:=hr1.tsz
 dfr:=hr1.dfr.trans hd0
 slots:=fun i=>by have:=hd.slots i;rw [hP] at this;exact this
 blks:=fun b=>by have:=hd.blks b;rw [hP] at this;exact this
 own:=fun b hb=>by
  have h1:=hr1.own (f b) (hd.frzOwned hb)
  exact ⟨h1.1,h1.2.1,fun h=>h.2.1 ⟨b,hb,rfl⟩⟩
 inj:=fun b b' hb hb' e=>hf b b' (hd.owned b hb).2.2 (hd.owned b' hb').2.2 (hr1.inj _ _ (hd.frzOwned hb) (hd.frzOwned hb') e)
 fsz:=hr1.fsz
 flo:=fun r hr=>.inl hr
 fhi:=fun r hr=>hr
 ksz:=fun r hr=>hr.1
 keep:=fun _ _=>rfl
 size:=Nat.le_refl _
 calm:=Calm.refl _
 nsz:=hr1.nsz
 aran:=fun b r h=>by
  simp only [ioC] at h
  split at h
  ·rename_i hb;exact hid b hb
  ·cases h
 anch:=fun b r h _=>by
  simp only [ioC] at h
  split at h
  ·cases h;rfl
  ·cases h
 ara:=fun b k h=>by
  simp only [ioC] at h
  split at h
  ·rename_i hb;exact hb.2
  ·cases h
 anA:=fun b k h _ _=>by
  simp only [ioC] at h
  split at h
  ·cases h;exact ⟨rfl,rfl⟩
  ·cases h
 pro:=fun l A L n st e=>by
  obtain ⟨h1,h2,h3⟩:=hY.pro l A L n st e
  exact ⟨h1,h2,Y,fun r hr=>⟨(hY.low r hr).1,(hY.low r hr).2.1,fun h=>h.2.2 hr⟩,fun b hb=>hY.own _ (hd.frzOwned hb),h3⟩
 ftok:=by have:=hr1.ftok;rw [hP,hft] at this;exact this
structure GList (s:AState) (κ:Nat→KB) (an:(Nat→Option Nat)×(Nat→Option (KB×Nat))) (bs:List (Nat×Body)) (G:List (Nat×(Nat×Nat))):Prop where
 n1:(G.map (·.1)).Nodup
 n2:(G.map (·.2.1)).Nodup
 dead:DEADB ∉ G.map (·.2.1)
 dd:(s.blk DEADB).body=.dead
 kind:∀ p∈G,(p.2.1<TMAX∧(s.blk p.2.1).gen<p.2.2)∨
  (((lookB bs p.1).body.isCells=true→(s.blk p.2.1).body.isCells=true∧an.1 p.1=some (κ p.2.1).blk)∧((lookB bs p.1).body.isMap=true→(s.blk p.2.1).body.isMap=true∧an.1 p.1=some (κ p.2.1).blk)∧(lookB bs p.1).body.isIt=false∧
   ((p.2.2=(s.blk p.2.1).gen∧((lookB bs p.1).body.isArr=true→(s.blk p.2.1).body.isArr=true∧(lookB bs p.1).body.esz=(s.blk p.2.1).body.esz∧an.2 p.1=some (κ p.2.1,(s.blk p.2.1).body.len)))∨p.2.2=(s.blk p.2.1).gen+1))
theorem io_leave {F' own Y:Nat→Prop} {sl:AV} {n:Nat} {an:(Nat→Option Nat)×(Nat→Option (KB×Nat))} {ins:List Nat} {out:Shape} {τ:out.Den} {vs:List Value} {w':World} {κ2:Nat→KB} {F2:Nat→Prop}
    (hr:RelK C s a w κ F') (hY:YPart C s w κ F' sl Y) (hown:∀ r,own r→∃ b,b∈ins∧(s.blk b).body.owned (κ b)=true∧(κ b).blk=r)
    (hret:RelK { ioC C w F' n own Y an with nt:=vs.length } (out.st τ) { tmps:=vs.toArray,defers:=[] } w' κ2 F2)
    {G:List (Nat×(Nat×Nat))} (hG:GList s κ an (blksL (lookG G) out.blks (slotsL (lookG G) out.slots τ).2) G)
    {H':Nat→ABlk} {κn:Nat→KB} (hH1:∀ p∈G,H' p.2.1=⟨p.2.2,(lookB (blksL (lookG G) out.blks (slotsL (lookG G) out.slots τ).2) p.1).body⟩∧κn p.2.1=κ2 p.1)
    (hH2:∀ b,b ∉ G.map (·.2.1)→κn b=κ b∧(b∈ins→H' b=⟨(s.blk b).gen+1,.dead⟩)∧(b ∉ ins→H' b=s.blk b))
    {X:AV} (hX:X=look (slotsL (lookG G) out.slots τ).1 TRS∨X=.undef∨(X=s.slot TRS∧sl=.undef)) :
    RelK C ⟨fun i=>if i=TRS then X else s.slot i,H'⟩ a w' κn F2∧
    ∀ i,RA C.P H' κn F2 w' (look (slotsL (lookG G) out.slots τ).1 i) (vs.toArray.getD i undef):=by
  generalize hbs:blksL (lookG G) out.blks (slotsL (lookG G) out.slots τ).2=bs at hG hH1
  have hsame:∀ b,SameB (lookB bs b).body ((out.st τ).blk b).body:=fun b=>by
    rw [←hbs,lookB_rest (slotsL_rest out.slots τ)]
    exact lookB_same out.blks (slotsL gId out.slots τ).2 b
  have hlk:Lk (out.st τ).blk H' κ2 κn (lookG G):=by
    intro b
    refine ⟨lookB_gen _ b,?_⟩
    by_cases hb:b∈G.map (·.1)
    · obtain ⟨p,hp,rfl⟩:=List.mem_map.1 hb
      rw [lookG_mem hG.n1 hp]
      obtain ⟨h1,h2⟩:=hH1 p hp
      rw [h1,h2]
      obtain ⟨k1,k2,k3,k4,k5,k6,_⟩:=hsame p.1
      exact ⟨Nat.le_refl _,fun _=>⟨fun h=>⟨k1 ▸ h,rfl⟩,fun h=>⟨k2 ▸ h,rfl,k3,k4⟩,fun h=>⟨k5 ▸ h,rfl⟩,fun h=>⟨k6 ▸ h,rfl⟩⟩⟩
    · rw [lookG_not hb]
      obtain ⟨_,h2,h3⟩:=hH2 DEADB hG.dead
      have hd:(H' DEADB).body=.dead:=by
        by_cases hi:DEADB∈ins
        · rw [h2 hi]
        · rw [h3 hi];exact hG.dd
      refine ⟨Nat.zero_le _,fun _=>?_⟩
      show ((H' DEADB).body.isCells=true→_)∧((H' DEADB).body.isArr=true→_)∧((H' DEADB).body.isMap=true→_)∧((H' DEADB).body.isIt=true→_)
      rw [hd]
      exact ⟨fun h=>(by cases h),fun h=>(by cases h),fun h=>(by cases h),fun h=>(by cases h)⟩
  have hcase:∀ b,(∃ p∈G,p.2.1=b)∨b ∉ G.map (·.2.1):=fun b=>by
    by_cases hb:b∈G.map (·.2.1)
    · obtain ⟨p,hp,e⟩:=List.mem_map.1 hb;exact .inl ⟨p,hp,e⟩
    · exact .inr hb
  have hanch:∀ p∈G,∀ r,an.1 p.1=some r→(lookB bs p.1).body.isCells=true∨(lookB bs p.1).body.isMap=true→(κ2 p.1).blk=r:=fun p hp r hr h=>by
    obtain ⟨k1,_,_,_,k5,_⟩:=hsame p.1
    exact hret.anch p.1 r hr (h.imp (fun h=>k1 ▸ h) (fun h=>k5 ▸ h))
  have hkept:∀ p∈G,∀ k,an.2 p.1=some k→(lookB bs p.1).body.isArr=true→κ2 p.1=k.1∧(lookB bs p.1).body.len=k.2:=fun p hp k hk h=>by
    obtain ⟨_,k2,k3,_⟩:=hsame p.1
    obtain ⟨h1,h2⟩:=hret.anA p.1 k hk (lookB_gen _ _) (k2 ▸ h)
    exact ⟨h1,k3.trans h2⟩
  have hl:Later s.blk κ H' κn:=by
    rw [later_iff]
    intro b
    rcases hcase b with ⟨p,hp,rfl⟩ | hb
    · obtain ⟨h1,h2⟩:=hH1 p hp
      rw [h1,h2]
      rcases hG.kind p hp with ⟨_,h⟩ | ⟨hc,hm,hit,h⟩
      · exact ⟨Nat.le_of_lt h,fun e=>(by have e:(s.blk p.2.1).gen=p.2.2:=e;omega)⟩
      · rcases h with ⟨h,harr⟩ | h
        · refine ⟨Nat.le_of_eq h.symm,fun _=>⟨fun h=>⟨(hc h).1,hanch p hp _ (hc h).2 (.inl h)⟩,fun h=>?_,fun h=>⟨(hm h).1,hanch p hp _ (hm h).2 (.inr h)⟩,fun h=>?_⟩⟩
          · have h:(lookB bs p.1).body.isArr=true:=h
            obtain ⟨a1,a2,a3⟩:=harr h
            obtain ⟨b1,b2⟩:=hkept p hp _ a3 h
            exact ⟨a1,b1,b2,a2⟩
          · have h:(lookB bs p.1).body.isIt=true:=h
            rw [hit] at h;cases h
        · exact ⟨by show _≤p.2.2;omega,fun e=>(by have e:(s.blk p.2.1).gen=p.2.2:=e;omega)⟩
    · obtain ⟨h1,h2,h3⟩:=hH2 b hb
      rw [h1]
      by_cases hi:b∈ins
      · rw [h2 hi]
        exact ⟨Nat.le_succ _,fun e=>(by have e:(s.blk b).gen=(s.blk b).gen+1:=e;omega)⟩
      · rw [h3 hi];exact Later1.refl _ _
  have hwsz:w.heap.size≤w'.heap.size:=hret.size
  have hF:∀ r,F' r→F2 r:=hret.fhi
  have hK:∀ r,r<w.heap.size→¬own r→¬Y r→w'.heap[r]?=w.heap[r]?:=fun r h1 h2 h3=>hret.keep r ⟨h1,h2,h3⟩
  have hK0:∀ r,C.K0 r→r<w.heap.size:=fun r h=>Nat.lt_of_lt_of_le (hr.ksz r h) hr.size
  have hoK:∀ r,own r→¬C.K0 r∧¬F' r:=fun r h=>by
    obtain ⟨b,_,h1,rfl⟩:=hown r h
    exact ⟨(hr.own b h1).2.2,(hr.own b h1).2.1⟩
  have hnK:∀ r,¬(r<w.heap.size∧¬own r∧¬Y r)→¬C.K0 r:=fun r h hk=>h ⟨hK0 r hk,fun ho=>(hoK r ho).1 hk,fun hy=>(hY.low r hy).2.2 hk⟩
  have hext:Ext F' w w':=⟨hwsz,fun r h=>hK r (hr.fsz r h) (fun ho=>(hoK r ho).2 h) fun hy=>(hY.low r hy).2.1 h⟩
  have hF2:∀ r,F2 r→F' r∨¬(r<w.heap.size∧¬own r∧¬Y r):=hret.flo
  have hrest:∀ b,b ∉ ins→(s.blk b).body.owned (κ b)=true→(κ b).blk<w.heap.size∧¬own (κ b).blk∧¬Y (κ b).blk:=fun b hb ho=>by
    refine ⟨(hr.own b ho).1,fun h=>?_,hY.own b ho⟩
    obtain ⟨b',h1,h2,h3⟩:=hown _ h
    exact hb (hr.inj b' b h2 ho h3 ▸ h1)
  have hown':∀ b,(H' b).body.owned (κn b)=true→(∃ p∈G,p.2.1=b∧((out.st τ).blk p.1).body.owned (κ2 p.1)=true∧κn b=κ2 p.1)∨(b ∉ G.map (·.2.1)∧b ∉ ins∧κn b=κ b∧(s.blk b).body.owned (κ b)=true):=fun b hb=>by
    rcases hcase b with ⟨p,hp,rfl⟩ | hn
    · obtain ⟨h1,h2⟩:=hH1 p hp
      rw [h1,h2] at hb
      exact .inl ⟨p,hp,rfl,by rw [←(hsame p.1).2.2.2.2.2.2];exact hb,h2⟩
    · obtain ⟨h1,h2,h3⟩:=hH2 b hn
      by_cases hi:b∈ins
      · rw [h2 hi] at hb;cases hb
      · rw [h3 hi,h1] at hb
        exact .inr ⟨hn,hi,h1,hb⟩
  have hsl:∀ i,RA C.P H' κn F2 w' (look (slotsL (lookG G) out.slots τ).1 i) (vs.toArray.getD i undef):=fun i=>hlk.slots out.slots τ i (hret.slots i)
  refine ⟨{ tsz := hr.tsz, dfr := hr.dfr, slots := fun i => ?_, blks := fun b => ?_, own := fun b hb => ?_, inj := fun b b' hb hb' e => ?_, fsz := hret.fsz, flo := fun r h => ?_, fhi := fun r h => hF r (hr.fhi r h), ksz := hr.ksz, keep := fun r h => ?_,
            size:=Nat.le_trans hr.size hwsz,calm:=hr.calm.trans hret.calm,nsz:=hr.nsz,aran:=hr.aran,anch:=fun b r h hc=>?_,ara:=hr.ara,anA:=fun b k h h0 ha=>?_,pro:=fun l A L m st e=>?_,ftok:=hr.ftok },hsl⟩
  · show RA C.P H' κn F2 w' (if i=TRS then X else s.slot i) _
    split
    · rename_i e
      subst e
      have hu:a.tmps.getD TRS undef=undef:=by
        have:=hr.tsz;have:=hr.nsz
        rw [Array.getD_eq_getD_getElem?,Array.getElem?_eq_none (by unfold TRS TMAX at *;omega)];rfl
      rcases hX with rfl | rfl | ⟨rfl,_⟩
      · have h:=hsl TRS
        have hu2:vs.toArray.getD TRS undef=undef:=by
          have:vs.length≤TMAX:=hret.nsz
          rw [Array.getD_eq_getD_getElem?,Array.getElem?_eq_none (by simp only [List.size_toArray];unfold TRS TMAX at *;omega)];rfl
        rw [hu2] at h;rw [hu];exact h
      · trivial
      · exact RA.later hl hF hext (hr.slots TRS)
    · exact RA.later hl hF hext (hr.slots i)
  · show HBody C.P H' κn F2 w' (κn b) (H' b).body
    rcases hcase b with ⟨p,hp,rfl⟩ | hn
    · obtain ⟨h1,h2⟩:=hH1 p hp
      rw [h1,h2,←hbs,lookB_rest (slotsL_rest out.slots τ)]
      exact hlk.blks out.blks (slotsL gId out.slots τ).2 p.1 (hret.blks p.1)
    · obtain ⟨h1,h2,h3⟩:=hH2 b hn
      by_cases hi:b∈ins
      · rw [h2 hi];trivial
      · have:=HB.other (H':=H') (κ':=κn) (hr.blks b) hl hF hext (by rw [h3 hi]) h1 fun ho=>hK _ (hrest b hi ho).1 (hrest b hi ho).2.1 (hrest b hi ho).2.2
        exact this
  · rcases hown' b hb with ⟨p,hp,_,h1,h2⟩ | ⟨_,h1,h2,h3⟩
    · have:=hret.own p.1 h1
      rw [h2]
      exact ⟨this.1,this.2.1,hnK _ this.2.2⟩
    · rw [h2]
      have h4:=hr.own b h3
      exact ⟨Nat.lt_of_lt_of_le h4.1 hwsz,fun h=>(hF2 _ h).elim h4.2.1 fun h=>h (hrest b h1 h3),h4.2.2⟩
  · rcases hown' b hb with ⟨p,hp,rfl,h1,h2⟩ | ⟨_,h1,h2,h3⟩<;>rcases hown' b' hb' with ⟨p',hp',rfl,h1',h2'⟩ | ⟨_,h1',h2',h3'⟩
    · rw [h2,h2'] at e
      have:=hret.inj _ _ h1 h1' e
      rw [key_inj hG.n1 hp hp' this]
    · rw [h2,h2'] at e
      exact ((hret.own p.1 h1).2.2 (e ▸ hrest b' h1' h3')).elim
    · rw [h2,h2'] at e
      exact ((hret.own p'.1 h1').2.2 (e ▸ hrest b h1 h3)).elim
    · rw [h2,h2'] at e
      exact hr.inj b b' h3 h3' e
  · rcases hF2 r h with h | h
    · exact hr.flo r h
    · exact .inr (hnK r h)
  · exact (hK r (hK0 r h) (fun ho=>(hoK r ho).1 h) fun hy=>(hY.low r hy).2.2 h).trans (hr.keep r h)
  · have ht:=hr.aran b r h
    rcases hcase b with ⟨p,hp,rfl⟩ | hn
    · obtain ⟨h1,h2⟩:=hH1 p hp
      simp only [h1] at hc
      rcases hG.kind p hp with ⟨h3,_⟩ | ⟨k1,k2,_⟩
      · omega
      · rw [h2]
        rcases hc with hc | hc
        · rw [hanch p hp _ (k1 hc).2 (.inl hc)]
          exact hr.anch _ r h (.inl (k1 hc).1)
        · rw [hanch p hp _ (k2 hc).2 (.inr hc)]
          exact hr.anch _ r h (.inr (k2 hc).1)
    · obtain ⟨h1,h2,h3⟩:=hH2 b hn
      by_cases hi:b∈ins
      · simp only [h2 hi] at hc
        rcases hc with hc | hc<;>cases hc
      · simp only [h3 hi] at hc
        rw [h1]
        exact hr.anch b r h hc
  · have ht:=hr.ara b k h
    have h0:(H' b).gen=0:=h0
    have ha:(H' b).body.isArr=true:=ha
    show κn b=k.1∧(H' b).body.len=k.2
    obtain ⟨g1,g2⟩:=hl b
    obtain ⟨a1,a2,a3,_⟩:=(g2 (by omega)).2.1 ha
    obtain ⟨k1,k2⟩:=hr.anA b k h (by omega) a1
    exact ⟨a2.trans k1,a3.trans k2⟩
  · have e:X=.tr l A L m st:=by simpa using e
    rcases hX with rfl | rfl | ⟨rfl,hsl0⟩
    · obtain ⟨h1,h2,Y',h3,h4,h5⟩:=hret.pro l A L m st (slots_tr out.slots τ TRS e)
      refine ⟨h1,h2,Y',fun r hr'=>⟨(h3 r hr').1,(h3 r hr').2.1,hnK r (h3 r hr').2.2⟩,fun b hb hy=>?_,h5⟩
      rcases hown' b hb with ⟨p,hp,rfl,k1,k2⟩ | ⟨_,k1,k2,k3⟩
      · rw [k2] at hy;exact h4 _ k1 hy
      · rw [k2] at hy;exact (h3 _ hy).2.2 (hrest b k1 k3)
    · cases e
    · obtain ⟨h1,h2,Y',h3,h4,h5⟩:=hr.pro l A L m st e
      have hYY:∀ r,Y' r→r<w.heap.size∧¬own r∧¬Y r:=fun r hy=>⟨(h3 r hy).1,fun ho=>by
        obtain ⟨b,_,k1,rfl⟩:=hown r ho
        exact h4 b k1 hy,hY.non hsl0 r⟩
      have hYF:∀ r,F2 r→¬Y' r:=fun r hf hy=>(hF2 r hf).elim (h3 r hy).2.1 fun h=>h (hYY r hy)
      refine ⟨h1,h2,Y',fun r hy=>⟨Nat.lt_of_lt_of_le (h3 r hy).1 hwsz,fun hf=>hYF r hf hy,(h3 r hy).2.2⟩,fun b hb hy=>?_,h2.stabAt h5 hF (fun r hf=>?_) hwsz hret.calm hret.fsz hYF⟩
      · rcases hown' b hb with ⟨p,hp,rfl,k1,k2⟩ | ⟨_,k1,k2,k3⟩
        · rw [k2] at hy;exact (hret.own _ k1).2.2 (hYY _ hy)
        · rw [k2] at hy;exact h4 b k3 hy
      · rcases hf with hf | hf
        · exact hext.2 r hf
        · obtain ⟨k1,k2,k3⟩:=hYY r hf
          exact hK r k1 k2 k3
end
end Go.Fer
namespace Go.Fer
open Go.RowKit
section
variable {C:Ctx} {T:Nat→Ty} {o:Oper} {s:AState}
theorem IoSpec.go {P:Program} {U:FnTab} {k:FuncId} {c:IOC} (hf:IoSpec P U k c) {C:Ctx} {a:Act} {w:World} {κ:Nat→KB} {F:Nat→Prop} {σ:c.sin.Den} (h:RelK C (c.sin.st σ) a w κ F) (h1:C.P=P) (h2:C.w0=w) (h3:C.r=none) (h4:C.dfr=[]) (h5:C.nt=c.nargs) (h6:C.ft=U) (hs:(c.sh σ).safe) :
  Calls P k a.tmps w fun e w'=>∃ v τ vs κ' F',e=.returned v∧(c.sh σ).out τ∧GrpVal c.grp v vs∧RelK { C with nt:=vs.length } (c.out.st τ) { tmps:=vs.toArray,defers:=[] } w' κ' F':=
 hf.calls C a w κ F σ h1 h2 h3 h4 h5 h6 h hs
theorem io_core {C:Ctx} {s:AState} {sl1:Nat→AV} {a a1:Act} {w:World} {κ:Nat→KB} {F:Nat→Prop} {n1:Nat} {c:IOC} {f:Nat→Nat} {σ:c.sin.Den} {fl:List Nat} {d m:Nat} {G:List (Nat×(Nat×Nat))}
    (hr:RelK C s a w κ F) (hr1:RelK { C with nt:=n1,dfr:=[],r:=none } ⟨sl1,s.blk⟩ a1 w κ F) (hslot:sl1 TRS=s.slot TRS)
    (hσ:c.sin.rdF f ⟨sl1,s.blk⟩=some (σ,fl)) (hGd:outG (s.frz fl) d f c.sin.owns c.out.blks 0=G) (hck:ioOk c f (s.frz fl) G d m=true) :
    ∃ (F' own Y:Nat→Prop) (an:(Nat→Option Nat)×(Nat→Option (KB×Nat))),(∀ r,F r→F' r)∧RelK C (s.frz fl) a w κ F'∧(∀ r,own r→∃ b,((s.frz fl).blk b).body.owned (κ b)=true∧(κ b).blk=r)∧YPart C (s.frz fl) w κ F' ((c.sin.st σ).slot TRS) Y∧(∀ l A L n st,(c.sin.st σ).slot TRS=.tr l A L n st→s.slot TRS=.tr l A L n st)∧
      RelK (ioC C w F' n1 own Y an) (c.sin.st σ) a1 w (fun b=>κ (f b)) F'∧
      ∀ w0b wb,RelK { C with w0:=w0b } (s.frz fl) a wb κ F'→YPart C (s.frz fl) wb κ F' ((c.sin.st σ).slot TRS) Y→∀ (τ:c.out.Den) (vs:List Value) (w':World) (κ2:Nat→KB) (F2:Nat→Prop),
        RelK { ioC C wb F' n1 own Y an with nt:=vs.length } (c.out.st τ) { tmps:=vs.toArray,defers:=[] } w' κ2 F2→
        ∃ κn,RelK { C with w0:=w0b } (ioSt0 (s.frz fl) c f G τ) a w' κn F2∧∀ i,RA C.P (ioSt0 (s.frz fl) c f G τ).blk κn F2 w' (look (slotsL (lookG G) c.out.slots τ).1 i) (vs.toArray.getD i undef):=by
  simp only [ioOk,Bool.and_eq_true,decide_eq_true_eq,Bool.not_eq_true'] at hck
  obtain ⟨⟨⟨⟨⟨⟨⟨⟨⟨⟨c1,c2⟩,c3⟩,c4⟩,c5⟩,c6⟩,c7⟩,c8⟩,c9⟩,c10⟩,_⟩:=hck
  have c3:(c.sin.blks.map (·.1)).Nodup:=of_decide_eq_true c3
  have c4:(c.sin.blks.map fun p=>f p.1).Nodup:=of_decide_eq_true c4
  have c5:(G.map (·.1)).Nodup:=of_decide_eq_true c5
  have c6:(G.map (·.2.1)).Nodup:=of_decide_eq_true c6
  have c8:DEADB ∉ G.map (·.2.1):=fun h=>by
    rw [List.contains_iff_mem.2 h] at c8;cases c8
  have c9:((s.frz fl).blk DEADB).body=.dead:=by
    split at c9
    · rename_i e;exact e
    · cases c9
  obtain ⟨F',f1,hr1,hd⟩:=Shape.rdF_ok hσ hr1
  have hr' : RelK C (s.frz fl) a w κ F' := { hr1 with
    tsz:=hr.tsz,dfr:=hr.dfr,nsz:=hr.nsz,slots:=fun i=>RA.later (later_frz s fl κ) f1 (Ext.refl _ _) (hr.slots i)
    blks:=hr1.blks
    pro:=fun l A L n st e=>hr1.pro l A L n st (by simpa [AState.frz,hslot] using e) }
  obtain ⟨Y,hY⟩:=hr'.ypart (sl:=(c.sin.st σ).slot TRS) fun l A L n st e=>by simpa [AState.frz,hslot] using hd.tr l A L n st e
  have hid:∀ b∈c.sin.blks.map (·.1),TMAX≤b:=fun b hb=>by simpa using List.all_eq_true.1 c7 b hb
  have howns:∀ b,b∈c.sin.owns→∃ q∈c.sin.blks,q.1=b∧q.2.isOwn=true:=fun b hb=>by
    obtain ⟨q,hq,e⟩:=List.mem_filterMap.1 hb
    split at e
    · cases e;exact ⟨q,hq,rfl,by assumption⟩
    · cases e
  have hcal:=io_enter (C:=C) (C1:={ C with nt:=n1,dfr:=[],r:=none }) (ids:=c.sin.blks.map (·.1)) rfl rfl rfl hr1 hd ⟨hY.pro,hY.low,hY.own,hY.non⟩ (fun b b' hb hb' e=>by
    obtain ⟨q,hq,rfl,_⟩:=howns b hb
    obtain ⟨q',hq',rfl,_⟩:=howns b' hb'
    rw [key_inj (k:=fun p=>f p.1) c4 hq hq' e]) hid
  refine ⟨F',_,Y,_,f1,hr',fun r ⟨b,hb,e⟩=>⟨f b,hd.frzOwned hb,e⟩,hY,fun l A L n st e=>by simpa [AState.frz,hslot] using hd.tr l A L n st e,hcal,fun w0b wb hrb hYb τ vs w' κ2 F2 hret=>?_⟩
  have hbs:∀ (b:Nat) (q':Nat×TB),q'∈c.out.blks→q'.1=b→b∈c.sin.owns→∀ (R:Type) (z:q'.2.cons R),
      ((q'.2.body (lookG G) z).1.isCells=true→((s.frz fl).blk (f b)).body.isCells=true)∧((q'.2.body (lookG G) z).1.isMap=true→((s.frz fl).blk (f b)).body.isMap=true)∧(q'.2.body (lookG G) z).1.isIt=false:=by
    intro b q' hq' e hb R z
    obtain ⟨q,hq,rfl,hqo⟩:=howns b hb
    have hk:=List.all_eq_true.1 (List.all_eq_true.1 c10 q' hq') q hq
    rw [e,hqo] at hk
    simp only [beq_self_eq_true,Bool.and_self,Bool.not_true,Bool.false_or] at hk
    rcases lookB_cases gId c.sin.blks (slotsL gId c.sin.slots σ).2 q.1 with ⟨_,h2⟩ | ⟨q2,h2,h3,R',z',h4⟩
    · exact (h2 (List.mem_map_of_mem hq)).elim
    · obtain rfl:=key_inj c3 h2 hq h3
      have h4:(c.sin.st σ).blk q2.1=⟨0,(q2.2.body gId z').1⟩:=h4
      obtain ⟨k1,k2,k3⟩:=kin_body hk z z' (g:=lookG G) (g':=gId)
      have hreg:=hd.reg q2.1
      refine ⟨fun hc=>?_,fun hc=>?_,k3⟩
      · have h5:=hd.owned q2.1 (by rw [h4];exact (k1 hc).2 _)
        simp only [AState.frz,if_neg h5.1]
        exact hreg.2.1 (by rw [h4];exact (k1 hc).1)
      · have h5:=hd.owned q2.1 (by rw [h4];exact (k2 hc).2 _)
        simp only [AState.frz,if_neg h5.1]
        exact hreg.2.2.2.1 (by rw [h4];exact (k2 hc).1)
  have hGids:G.map (·.1)=c.out.blks.map (·.1):=by rw [←hGd];exact outG_ids ..
  have hG:GList (s.frz fl) κ (fun b=>if b∈c.sin.blks.map (·.1) then some (κ (f b)).blk else none,fun b=>if b∈c.sin.blks.map (·.1)∧KEEPB≤b then some (κ (f b),((c.sin.st σ).blk b).body.len) else none) (blksL (lookG G) c.out.blks (slotsL (lookG G) c.out.slots τ).2) G:=by
    refine ⟨c5,c6,c8,c9,fun p hp=>?_⟩
    rw [←hGd] at hp
    rcases outG_mem _ _ _ _ _ _ hp with ⟨h1,h2,t,h3,h4⟩ | ⟨_,h2,h3,h4⟩
    · rw [h2]
      have hmem:p.1∈c.sin.blks.map (·.1):=by
        obtain ⟨q,hq,e,_⟩:=howns _ h1
        exact e ▸ List.mem_map_of_mem hq
      rcases lookB_cases (lookG G) c.out.blks (slotsL (lookG G) c.out.slots τ).2 p.1 with ⟨_,k2⟩ | ⟨q',k1,k2,R,z,k3⟩
      · exact (k2 (List.mem_map_of_mem (f:=(·.1)) h3)).elim
      · rw [k3]
        obtain ⟨b1,b2,b3⟩:=hbs p.1 q' k1 k2 h1 R z
        have:q'=(p.1,t):=key_inj (hGids ▸ c5) k1 h3 k2
        subst this
        refine .inr ⟨fun h=>⟨b1 h,if_pos hmem⟩,fun h=>⟨b2 h,if_pos hmem⟩,b3,h4.imp (fun h4=>⟨h4.1,fun harr=>?_⟩) id⟩
        rcases h4.2 with h5 | ⟨hk,e,rfl⟩
        · have:=h5 (lookG G) R z
          have harr:(t.body (lookG G) z).1.isArr=true:=harr
          rw [this] at harr;cases harr
        · obtain ⟨q,hq,hqe,hqo⟩:=howns p.1 h1
          have hkin:=List.all_eq_true.1 (List.all_eq_true.1 c10 _ k1) q hq
          rw [hqe,hqo] at hkin
          simp only [beq_self_eq_true,Bool.and_self,Bool.not_true,Bool.false_or] at hkin
          rcases lookB_cases gId c.sin.blks (slotsL gId c.sin.slots σ).2 p.1 with ⟨_,h2'⟩ | ⟨q2,m2,m3,R',z',m4⟩
          · exact (h2' (hqe ▸ List.mem_map_of_mem hq)).elim
          · obtain rfl:=key_inj c3 m2 hq (m3.trans hqe.symm)
            have m4:(c.sin.st σ).blk p.1=⟨0,(q2.2.body gId z').1⟩:=m4
            obtain ⟨q1,qt⟩:=q2
            have hkin:TB.kin (.arr e) qt=true:=hkin
            obtain rfl:qt=.arr e:=by
              cases qt<;>first | (simp only [TB.kin,decide_eq_true_eq] at hkin;rw [hkin]) | cases hkin
            have hreg:=hd.reg p.1
            have harr':((c.sin.st σ).blk p.1).body.isArr=true:=by rw [m4];rfl
            obtain ⟨r1,r2,r3⟩:=hreg.2.2.1 harr'
            have hz:((s.frz fl).blk (f p.1)).body.isArr=true∧((s.frz fl).blk (f p.1)).body.len=(s.blk (f p.1)).body.len∧((s.frz fl).blk (f p.1)).body.esz=(s.blk (f p.1)).body.esz:=by
              simp only [AState.frz]
              split
              · rcases fz_cases s.blk (s.blk (f p.1)) with e' | ⟨_,_,hx,e'⟩ | ⟨_,_,_,hx,_⟩ | ⟨_,_,_,_,hx,_,_⟩
                · rw [e'];exact ⟨r1,rfl,rfl⟩
                · rw [e',hx];exact ⟨rfl,rfl,rfl⟩
                · have r1:(s.blk (f p.1)).body.isArr=true:=r1
                  rw [hx] at r1;cases r1
                · have r1:(s.blk (f p.1)).body.isArr=true:=r1
                  rw [hx] at r1;cases r1
              · exact ⟨r1,rfl,rfl⟩
            have r2:((c.sin.st σ).blk p.1).body.len=(s.blk (f p.1)).body.len:=r2
            have r3:((c.sin.st σ).blk p.1).body.esz=(s.blk (f p.1)).body.esz:=r3
            refine ⟨hz.1,?_,?_⟩
            · rw [hz.2.2,←r3,m4];rfl
            · rw [hz.2.1,←r2]
              exact if_pos ⟨hmem,hk⟩
    · refine .inl ⟨?_,by rw [h2];exact Nat.lt_succ_self _⟩
      unfold TMAX
      omega
  obtain ⟨hfin,hsl⟩:=io_leave (ins:=c.sin.owns.map f) (X:=if c.out.slots.any (fun p=>p.1 == TRS) then look (slotsL (lookG G) c.out.slots τ).1 TRS else if c.sin.slots.any (fun p=>p.1 == TRS) then .undef else (s.frz fl).slot TRS)
    (H':=(ioSt0 (s.frz fl) c f G τ).blk)
    (κn:=fun b=>match G.find? (fun p=>p.2.1 == b) with
      | some p=>κ2 p.1
      | none=>κ b) hrb ⟨hYb.pro,hYb.low,hYb.own,hYb.non⟩ (fun r ⟨b,hb,e⟩=>⟨f b,List.mem_map_of_mem (hd.owned b hb).2.2,hd.frzOwned hb,e⟩) hret hG
    (fun p hp=>by simp only [ioSt0,find_key (k:=fun p=>p.2.1) c6 hp,and_self]) (fun b hb=>by
      have hn:G.find? (fun p=>p.2.1 == b)=none:=List.find?_eq_none.2 fun p hp e=>hb (List.mem_map.2 ⟨p,hp,by simpa using e⟩)
      simp only [ioSt0,hn,true_and]
      exact ⟨fun hi=>by rw [if_pos (List.contains_iff_mem.2 hi)],fun hi=>by rw [if_neg (by simpa using hi)]⟩)
    (by
      split
      · exact .inl rfl
      · split
        · exact .inr (.inl rfl)
        · rename_i h2
          exact .inr (.inr ⟨rfl,look_none c.sin.slots gId σ TRS (Bool.eq_false_iff.2 h2)⟩))
  exact ⟨_,hfin,hsl⟩
theorem ioI_ok (hdst:∀ i,o.dst=some i→i<C.nt) {k:Nat} {args:Array Operand} {tys:Array TypeId} (ho:o.op=.call { callee:=.value (.func k),args:=args,argTypes:=tys }) {c:IOC} (hf:IoSpec C.P C.ft k c) {pr:PRes}
  (h:ioI C.ft s o args.toList c=some pr):PrOk C o s pr:=by
 obtain ⟨args⟩:=args
 unfold ioI at h
 generalize hfd:ioF c (argSt s (ioAvs C.ft s args))=f at h
 split at h
 ·rename_i σ fl hσ
  split at h
  ·rename_i hck
   cases h
   have hfree:UseOk (opAV C.ft s.slot) o→usesObL (args.map (opAV C.ft s.slot)):=fun hb=>args_free hb fun x hx=>by rw [ho];simp [Op.operands,Call.operands];simp_all
   refine ⟨fun a w Q K hr hob hmret=>?_,fun gs hgs=>(by cases hgs),hfree⟩
   obtain ⟨κ,F,hr⟩:=hr
   have hlen:args.length=c.nargs∧args.length≤TMAX:=by
    simp only [ioOk,Bool.and_eq_true,decide_eq_true_eq] at hck
    exact hck.2
   have hargs:=hr.args (avs:=ioAvs C.ft s args) (us:=args.map a.eval) (by simpa using hlen.2) (by simp [ioAvs]) fun i hi=>by
    have hi2:i<args.length:=by simpa using hi
    have h1:=usesObL_spec hob i (by simpa using hi2)
    have e1:(args.map (opAV C.ft s.slot)).getD i .undef=opAV C.ft s.slot args[i]:=by simp [List.getD_eq_getElem?_getD,hi2]
    rw [e1] at h1
    have e2:(ioAvs C.ft s args).getD i .undef=(use (opAV C.ft s.slot args[i])).2:=by simp [ioAvs,List.getD_eq_getElem?_getD,hi2]
    have e3:(args.map a.eval).getD i undef=a.eval args[i]:=by simp [List.getD_eq_getElem?_getD,hi2]
    rw [e2,e3]
    exact use_ok (opAV_ok hr args[i]) h1
   obtain ⟨F',own,Y,an,_,hr',_,hY,_,hcal,hlv⟩:=io_core hr hargs rfl hσ rfl hck
   have hrun:(execOp a.eval o).run C.P w=.ok (.enter k (args.map a.eval).toArray) w:=by
    simp only [execOp,ho,Sem.run_bind,resolve,Act.eval,Deferred.ofValue,Sem.run_pure,Result.andThen_ok,invoke]
    have:=hf.enter (args.map a.eval).toArray w
    simpa [Act.eval] using this
   have hcc:=hf.go hcal rfl rfl rfl rfl (by show (args.map a.eval).length=_;rw [List.length_map];exact hlen.1) rfl hmret.1
   refine oper_call (by rw [ho];intro c hc;cases hc) hrun hcc fun e w' ⟨v,τ,vs,κ2,F2,he,hτ,hgv,hret⟩=>⟨v,he,hmret.2 τ hτ _ _ ?_⟩
   obtain ⟨κn,hfin,hsl⟩:=hlv C.w0 w hr' hY τ vs w' κ2 F2 hret
   exact ⟨_,F2,RelK.set hfin hdst (grpVal_ok hgv fun j=>by simpa [Array.getD_eq_getD_getElem?,List.getD_eq_getElem?_getD] using hsl j)⟩
  ·cases h
 ·cases h
end
end Go.Fer
namespace Go.Fer
open Go.RowKit
section
variable {C:Ctx} {o:Oper} {s:AState}
theorem RelK.round {s:AState} {a:Act} {w w':World} {κ:Nat→KB} {F' F2 Y Y2:Nat→Prop} {l:Nat} {A:Ty} {L:List A.Den→Prop} {I} {n2:List A.Den} {st2:Bool} (hr:RelK C s a w κ F') (hpr:C.pr=⟨l,A,L,I⟩) (hok:C.pr.Ok C.P)
    (hy:∀ r,Y r→r<w.heap.size∧¬F' r∧¬C.K0 r) (hyo:∀ b,(s.blk b).body.owned (κ b)=true→¬Y (κ b).blk)
    (g1:∀ r,F' r→F2 r) (g2:∀ r,F2 r→F' r∨Y r∨w.heap.size≤r) (g3:∀ r,F2 r→r<w'.heap.size) (g4:∀ r,r<w.heap.size→¬Y r→w'.heap[r]?=w.heap[r]?)
    (g5:∀ r,Y2 r→(Y r∨w.heap.size≤r)∧r<w'.heap.size∧¬F2 r) (g6:w.heap.size≤w'.heap.size) (g7:Calm w w') (g8:I n2 st2 F2 Y2 w') :
    RelK C ⟨fun i=>if i=TRS then .tr l A L n2 st2 else s.slot i,s.blk⟩ a w' κ F2:=by
  have hext:Ext F' w w':=⟨g6,fun r h=>g4 r (hr.fsz r h) fun hy'=>(hy r hy').2.1 h⟩
  have hnew:∀ r,w.heap.size≤r→¬C.K0 r:=fun r h hk=>by have:=hr.ksz r hk;have:=hr.size;omega
  refine { tsz := hr.tsz, dfr := hr.dfr, slots := fun i => ?_, blks := fun b => HB.other (hr.blks b) (Later.refl _ _) g1 hext rfl rfl fun ho => g4 _ (hr.own b ho).1 (hyo b ho), own := fun b hb => ?_, inj := hr.inj, fsz := g3, flo := fun r h => ?_,
            fhi:=fun r h=>g1 r (hr.fhi r h),ksz:=hr.ksz,keep:=fun r h=>?_,size:=Nat.le_trans hr.size g6,calm:=hr.calm.trans g7,nsz:=hr.nsz,aran:=hr.aran,anch:=hr.anch,ara:=hr.ara,anA:=hr.anA,pro:=fun l' A' L' n' st' e=>?_,ftok:=hr.ftok }
  · show RA C.P s.blk κ F2 w' (if i=TRS then .tr l A L n2 st2 else s.slot i) _
    split
    · trivial
    · exact RA.later (Later.refl _ _) g1 hext (hr.slots i)
  · have h:=hr.own b hb
    exact ⟨Nat.lt_of_lt_of_le h.1 g6,fun hf=>(g2 _ hf).elim h.2.1 fun k=>k.elim (hyo b hb) fun k=>absurd h.1 (Nat.not_lt.2 k),h.2.2⟩
  · rcases g2 r h with h | h | h
    · exact hr.flo r h
    · exact .inr (hy r h).2.2
    · exact .inr (hnew r h)
  · exact (g4 r (Nat.lt_of_lt_of_le (hr.ksz r h) hr.size) fun k=>(hy r k).2.2 h).trans (hr.keep r h)
  · simp only [if_true] at e
    cases e
    refine ⟨⟨I,hpr⟩,hok,Y2,fun r h=>⟨(g5 r h).2.1,(g5 r h).2.2,?_⟩,fun b hb h=>?_,?_⟩
    · rcases (g5 r h).1 with h | h
      · exact (hy r h).2.2
      · exact hnew r h
    · rcases (g5 _ h).1 with h | h
      · exact hyo b hb h
      · exact absurd (hr.own b hb).1 (Nat.not_lt.2 h)
    · rw [hpr];exact Proto.at_mk.2 g8
theorem yldI_ok (hdst:∀ i,o.dst=some i→i<C.nt) {t:Nat} {args:Array Operand} {tys:Array TypeId} (ho:o.op=.call { callee:=.value (.tmp t),args:=args,argTypes:=tys }) {pr:PRes}
  (h:yldI C.ft s o t args.toList=some pr):PrOk C o s pr:=by
 obtain ⟨args⟩:=args
 unfold yldI at h
 split at h
 ·rename_i l' l A L n st hs1 hs2
  split at h
  ·rename_i x fl hx
   cases h
   refine ⟨fun a w Q K hr hob hm=>?_,fun gs hgs=>(by cases hgs),fun hb=>args_free hb fun x hx=>by rw [ho];simp [Op.operands,Call.operands];simp_all⟩
   obtain ⟨κ,F,hr⟩:=hr
   rw [M.ret_req] at hm
   obtain ⟨⟨rfl,rfl,hLn⟩,hm⟩:=hm
   obtain ⟨F',f1,hr',f2⟩:=RelK.frzL (asArgs_closed _ hx) hr
   have hargs:RArgs C.P A F' w (args.map a.eval) x:=by
    refine asArgs_ok hr.blks f1 A hx f2 (by simp) fun i hi hi'=>?_
    simp only [List.getElem_map]
    have hi2:i<args.length:=by simpa using hi'
    have h1:=usesObL_spec hob i (by simpa using hi2)
    have e1:(args.map (opAV C.ft s.slot)).getD i .undef=opAV C.ft s.slot args[i]:=by simp [List.getD_eq_getElem?_getD,hi2]
    rw [show (List.map (opAV C.ft s.slot) (⟨args⟩:Array Operand).toList)=args.map (opAV C.ft s.slot) from rfl,e1] at h1
    exact use_ok (opAV_ok hr args[i]) h1
   have hv:a.eval (.tmp t)=.func (.yield l') #[] #[]:=by
    have:=opAV_ok hr (.tmp t)
    have e:opAV C.ft s.slot (.tmp t)=.yld l':=hs1
    rw [e] at this
    exact this
   obtain ⟨⟨I,hpr⟩,hok,Y,hy,hyo,hI⟩:=hr'.pro l' A L n false hs2
   have hok':Proto.Ok C.P ⟨l',A,L,I⟩:=hpr ▸ hok
   rw [hpr] at hI
   have hI:=Proto.at_mk.1 hI
   obtain ⟨fn,tmps,assign,body,h1,h2⟩:=hok'.yield hI hr'.fsz (fun r h=>⟨(hy r h).1,(hy r h).2.1⟩) hLn hargs
   have hrun:(execOp a.eval o).run C.P w=.ok (.round l' fn tmps assign body) w:=by
    simp only [execOp,ho,Sem.run_bind,resolve,hv,Deferred.ofValue,Sem.run_pure,Result.andThen_ok,invoke]
    simpa using h1
   refine ⟨fun _ _=>trivial,?_⟩
   rw [semAt_rnd (by rw [ho];intro c hc;cases hc),hrun,Oper.uponIn_round]
   refine ⟨fun hs=>(by cases hs),?_⟩
   have h3:RoundIn (rnd C.r) 0 C.P l' fn tmps assign body w _:=h2
   refine h3.mono fun e w' ⟨b,F2,Y2,he,g1,g2,g3,g4,g5,g6,g7,g8⟩=>?_
   subst he
   refine hm.2 b trivial _ _ ⟨κ,F2,RelK.set ?_ hdst (RV_bool.2 rfl)⟩
   exact hr'.round hpr hok hy hyo g1 g2 g3 g4 g5 g6 g7 g8
  ·cases h
 ·cases h
end
end Go.Fer
namespace Go.Fer
open Go.RowKit
section
variable {C:Ctx} {T:Nat→Ty} {Φ:Nat→Option FC} {s:AState} {res:OpRes}
theorem findIdx_born {ms:Array MapEntry} {j:Nat} (hj:j<ms.size) (hu:∀ i (h:i<ms.size),ms[i].born=ms[j].born→i=j):ms.findIdx? (fun e=>(e.born:Int) == (ms[j].born:Int))=some j:=by
 rw [Array.findIdx?_eq_some_iff_getElem]
 refine ⟨hj,by simp,fun i hi=>?_⟩
 simp only [beq_iff_eq]
 intro e
 have:=hu i (by omega) (by omega)
 omega
theorem modify_push (ms:Array MapEntry) (e:MapEntry) (f:MapEntry→MapEntry):(ms.push e).modify ms.size f=ms.push (f e):=by
 apply Array.ext
 ·simp
 ·intro i h1 h2
  rw [Array.getElem_modify]
  by_cases hi:ms.size=i
  ·subst hi;simp
  ·have hlt:i<ms.size:=by simp at h2;omega
   rw [if_neg hi,Array.getElem_push_lt hlt,Array.getElem_push_lt hlt]
theorem modify_modify (ms:Array MapEntry) (j:Nat) (f g:MapEntry→MapEntry):(ms.modify j f).modify j g=ms.modify j fun e=>g (f e):=by
 apply Array.ext
 ·simp
 ·intro i h1 h2
  simp only [Array.getElem_modify]
  split<;>rfl
theorem eval_put_ne {a:Act} {d:Nat} {v:Value} {x:Operand} (h:x≠.tmp d):(a.put (some d) v).eval x=a.eval x:=Act.eval_put fun d' e=>by cases e;exact h
theorem eval_put_eq {a:Act} {d:Nat} {v:Value} (h:d<a.tmps.size):(a.put (some d) v).eval (.tmp d)=v:=by
 simp [Act.put,Act.eval,Array.getD_eq_getD_getElem?,h]
theorem ok_entry3 (hT:TabOk C.P T) {o1 o2 o3 oU:Oper} {d1 d2:Nat} {ty:TypeId} {m x y:Operand} (h1:o1.op=.mapEntry ty m x) (t1:o1.dst=some d1) (h2:o2.op=.extract (.tmp d1) 1) (t2:o2.dst=some d2)
  (h3:o3.op=.entryStore ty m (.tmp d2) y) (t3:o3.dst=none) (hU:oU.op=.mapUpdate ty m x y) (tU:oU.dst=none) (hm1:m≠.tmp d1) (hm2:m≠.tmp d2) (hy1:y≠.tmp d1) (hy2:y≠.tmp d2) (hn1:d1<C.nt) (hn2:d2<C.nt)
  (h:(opV C.ft T Φ (opAV C.ft s.slot) oU).run s.blk=some res) {a:Act} {w:World} {κ:Nat→KB} {F:Nat→Prop} {Q:Exit→Act→World→Prop} {K:Act→World→Prop} (hr:RelK C s a w κ F) (hob:res.ob) (hc:res.c)
  (hK:∀ a' w',Rel C (((s.app none res).set (some d1) .undef).set (some d2) .undef) a' w'→K a' w') :
  o1.wpIn (rnd C.r) 0 C.P a w (fun a1 w1=>o2.wpIn (rnd C.r) 0 C.P a1 w1 (fun a2 w2=>o3.wpIn (rnd C.r) 0 C.P a2 w2 K Q) Q) Q:=by
 have hop:=ok_mapUpdate hT tU (.inl hU) h a w κ F Q hr hob hc
 rw [tU] at hop
 have e1:∀ c,o1.op≠.defer c:=by rw [h1];intro c hc;cases hc
 have e2:∀ c,o2.op≠.defer c:=by rw [h2];intro c hc;cases hc
 have e3:∀ c,o3.op≠.defer c:=by rw [h3];intro c hc;cases hc
 have eU:∀ c,oU.op≠.defer c:=by rw [hU];intro c hc;cases hc
 simp only [opV,hU,mapUpV] at h
 split at h
 ·rename_i k v ht
  obtain ⟨kid,vid,hi,hik,hiv⟩:=(hT.is ht (by simp)).mp
  obtain ⟨inf,zv,i1,i2,i3,i4,i5,i6⟩:=infoOk_out hiv.info
  split at h
  ·rename_i hck0
   split at h
   ·rename_i b g hme
    simp only [Rd.run_bindO,Option.bind_eq_some_iff,Rd.run_bind,Rd.run_get,Rd.run_ret] at h
    obtain ⟨⟨x',lx⟩,hx,⟨y',ly⟩,hy,h⟩:=h
    split at h
    ·rename_i hg
     obtain ⟨hg,hnb⟩:=hg
     have hnb:b ∉ lx++ly:=by
      have:=hnb
      simp only [List.contains_eq_mem,Bool.not_eq_true',decide_eq_false_iff_not] at this
      exact this
     split at h
     ·rename_i k' v' es hb
      simp only [Option.map_eq_some_iff] at h
      obtain ⟨es',hes,rfl⟩:=h
      obtain ⟨e,rfl⟩:=castDen_some hes
      cases e
      obtain ⟨F',f1,hr',f2⟩:=RelK.frzL ((asDen_closed hx).append (asDen_closed hy)) hr
      have hm:RA C.P s.blk κ F w (use (opAV C.ft s.slot m)).2 (a.eval m):=use_op hr m rfl hob.1
      rw [hme] at hm
      have hmv:=hm.2 hg.symm (by rw [hb];rfl)
      have hkx:=asDen_ok hr.blks f1 hx f2.left (use_op hr x rfl hob.2.1)
      have hbf:(s.frz (lx++ly)).blk b=s.blk b:=by simp only [AState.frz];rw [if_neg hnb]
      have hB:=hr'.blks b
      unfold HB at hB
      rw [hbf,hb] at hB
      obtain ⟨ms,clk,hw,hM⟩:=hB
      have kc:k.comparable=true∧k.nest≤100:=by simpa [keyOk] using hck0
      have hck:=(checkKey_ok (em:=false) k 10000 kc.1 (by omega)).1 hik hkx
      have hE:=hM.es
      obtain ⟨f,q1,q2⟩:=findKey_ok (β:=v.Den) (xs:=es) (es:=ms.toList) hck0 hik hkx hE.1 (fun j e p h1 h2=>(hE.2 j e p h1 h2).1)
      have hget:(getObj (κ b).blk).run C.P w=.ok (.map ms clk) w:=by simp [getObj,Sem.run,hw]
      obtain ⟨ksz,knd,kent,kborn⟩:=hM
      have hts:d1<a.tmps.size:=by have:=hr.tsz;omega
      have hlt:(κ b).blk<w.heap.size:=(Array.getElem?_eq_some_iff.1 hw).1
      have chain:∀ (w1 w2:World) (u:Value) (n:Int),(execOp a.eval o1).run C.P w=.ok (.value (.tuple #[u,goInt n])) w1→(Instr.entryStore ty (.map (some (κ b).blk)) (goInt n) (a.eval y)).run C.P w1=.ok () w2→
        (execOp a.eval oU).run C.P w=.ok .skip w2→
        o1.wpIn (rnd C.r) 0 C.P a w (fun a1 w1=>o2.wpIn (rnd C.r) 0 C.P a1 w1 (fun a2 w2=>o3.wpIn (rnd C.r) 0 C.P a2 w2 K Q) Q) Q:=by
       intro w1 w2 u n r1 r2 rU
       have hrel:=hop.2
       rw [semAt_rnd eU,rU,Oper.uponIn_skip,tU] at hrel
       refine oper_value e1 r1 ?_
       rw [t1]
       have ev1:(a.put (some d1) (.tuple #[u,goInt n])).eval (.tmp d1)=.tuple #[u,goInt n]:=eval_put_eq hts
       refine oper_value (v:=goInt n) (w':=w1) e2 (by simp [execOp,h2,ev1,Instr.extract]) ?_
       rw [t2]
       have hts2:d2<(a.put (some d1) (.tuple #[u,goInt n])).tmps.size:=by have:=hr.tsz;simp [Act.put];omega
       have ev2:((a.put (some d1) (.tuple #[u,goInt n])).put (some d2) (goInt n)).eval (.tmp d2)=goInt n:=eval_put_eq hts2
       have evm:((a.put (some d1) (.tuple #[u,goInt n])).put (some d2) (goInt n)).eval m=.map (some (κ b).blk):=by rw [eval_put_ne hm2,eval_put_ne hm1,hmv]
       have evy:((a.put (some d1) (.tuple #[u,goInt n])).put (some d2) (goInt n)).eval y=a.eval y:=by rw [eval_put_ne hy2,eval_put_ne hy1]
       refine oper_skip e3 (w':=w2) (by simp only [execOp,h3,ev2,evm,evy,Sem.run_bind,r2,Result.andThen_ok,Sem.run_pure]) ?_
       rw [t3]
       refine hK _ _ ?_
       obtain ⟨κ',F',hrel⟩:=hrel
       exact ⟨κ',F',RelK.set (RelK.set (d:=some d1) (av:=.undef) hrel (fun i e=>by cases e;exact hn1) trivial) (fun i e=>by cases e;exact hn2) trivial⟩
      rcases q2 with ⟨rfl,hne⟩ | ⟨j,e,p,g1,g2,g3,g4,rfl⟩
      ·refine chain { w with heap:=w.heap.setIfInBounds (κ b).blk (.map (ms.push { key:=a.eval x,val:=zv,born:=clk }) (clk+1)) } { w with heap:=w.heap.setIfInBounds (κ b).blk (.map (ms.push { key:=a.eval x,val:=a.eval y,born:=clk }) (clk+1)) } zv clk ?_ ?_ ?_
       ·simp only [execOp,h1,hmv,Instr.mapEntry,Sem.run_bind,run_underlying' hi,Result.andThen_ok,hget,hck,q1,run_zeroValue' i1 i4,setObj_run hw,Sem.run_pure]
       ·have hget1:(getObj (κ b).blk).run C.P { w with heap:=w.heap.setIfInBounds (κ b).blk (.map (ms.push { key:=a.eval x,val:=zv,born:=clk }) (clk+1)) }=.ok (.map (ms.push { key:=a.eval x,val:=zv,born:=clk }) (clk+1)) { w with heap:=w.heap.setIfInBounds (κ b).blk (.map (ms.push { key:=a.eval x,val:=zv,born:=clk }) (clk+1)) }:=by simp [getObj,Sem.run,hlt]
        have hfi:(ms.push { key:=a.eval x,val:=zv,born:=clk }).findIdx? (fun e=>(e.born:Int) == (clk:Int))=some ms.size:=by
         have:=findIdx_born (ms:=ms.push { key:=a.eval x,val:=zv,born:=clk }) (j:=ms.size) (by simp) fun i hi he=>by
          by_cases hil:i<ms.size
          ·rw [Array.getElem_push_lt hil] at he
           simp only [Array.getElem_push_eq] at he
           have:=(kent i (by omega) hil).2.2.2.2
           omega
          ·simp at hi;omega
         simpa using this
        simp only [Instr.entryStore,Sem.run_bind,hget1,Result.andThen_ok,goInt,asInt,asIntOf,Sem.run_pure,hfi]
        rw [setObj_run (es:=ms.push { key:=a.eval x,val:=zv,born:=clk }) (clk:=clk+1) (by simp [hlt]),modify_push]
        simp
       ·simp only [execOp,hU,hmv,Instr.mapUpdate,Sem.run_bind,run_underlying' hi,Result.andThen_ok,hget,hck,q1,setObj_run hw,Sem.run_pure]
      ·have hj:j<es.length:=(List.getElem?_eq_some_iff.1 g2).1
       have hjm:j<ms.size:=by omega
       have hej:ms[j]=e:=by
        have:=(List.getElem?_eq_some_iff.1 g1).2
        simpa using this
       obtain ⟨kk,w1,r1,r2,r3⟩:=keyStays_run C.P w e.key (a.eval x)
       have hw1:w1.heap[(κ b).blk]?=some (.map ms clk):=by rcases r3 with rfl | rfl<;>exact hw
       have hlt1:(κ b).blk<w1.heap.size:=(Array.getElem?_eq_some_iff.1 hw1).1
       have hold:((ms[j]?).map (·.key)).getD (a.eval x)=e.key:=by
        rw [Array.getElem?_eq_getElem hjm,hej];rfl
       have hborn:((ms[j]?).map (fun x=>(x.born:Int))).getD 0=(ms[j].born:Int):=by rw [Array.getElem?_eq_getElem hjm];rfl
       rw [Nat.zero_add] at q1
       refine chain { w1 with heap:=w1.heap.setIfInBounds (κ b).blk (.map (ms.modify j fun e=>{ e with key:=kk }) clk) } { w1 with heap:=w1.heap.setIfInBounds (κ b).blk (.map (ms.modify j fun e=>{ e with key:=kk,val:=a.eval y }) clk) } e.val ms[j].born ?_ ?_ ?_
       ·simp only [execOp,h1,hmv,Instr.mapEntry,Sem.run_bind,run_underlying' hi,Result.andThen_ok,hget,hck,q1]
        rw [hold,r1]
        simp only [Result.andThen_ok,setObj_run hw1,Sem.run_pure,hborn]
       ·have hget1:(getObj (κ b).blk).run C.P { w1 with heap:=w1.heap.setIfInBounds (κ b).blk (.map (ms.modify j fun e=>{ e with key:=kk }) clk) }=.ok (.map (ms.modify j fun e=>{ e with key:=kk }) clk) { w1 with heap:=w1.heap.setIfInBounds (κ b).blk (.map (ms.modify j fun e=>{ e with key:=kk }) clk) }:=by simp [getObj,Sem.run,hlt1]
        have hb1:∀ i (h:i<(ms.modify j fun e=>{ e with key:=kk }).size),((ms.modify j fun e=>{ e with key:=kk })[i]).born=(ms[i]'(by simpa using h)).born:=by
         intro i h
         simp only [Array.getElem_modify]
         split<;>rfl
        have hfi:(ms.modify j fun e=>{ e with key:=kk }).findIdx? (fun e=>(e.born:Int) == (ms[j].born:Int))=some j:=by
         have:=findIdx_born (ms:=ms.modify j fun e=>{ e with key:=kk }) (j:=j) (by simpa using hjm) fun i hi he=>by
          rw [hb1 i hi,hb1 j (by simpa using hjm)] at he
          exact kborn i j (by simpa using hi) hjm he
         rw [hb1 j (by simpa using hjm)] at this
         exact this
        simp only [Instr.entryStore,Sem.run_bind,hget1,Result.andThen_ok,goInt,asInt,asIntOf,Sem.run_pure,hfi]
        rw [setObj_run (es:=ms.modify j fun e=>{ e with key:=kk }) (clk:=clk) (by simp [hlt1]),modify_modify]
        simp
       ·simp only [execOp,hU,hmv,Instr.mapUpdate,Sem.run_bind,run_underlying' hi,Result.andThen_ok,hget,hck,q1]
        rw [hold,r1]
        simp only [Result.andThen_ok,setObj_run hw1,Sem.run_pure]
     ·cases h
    ·cases h
   ·cases h
  ·cases h
 ·cases h
end
end Go.Fer
namespace Go.Fer
open Go.RowKit
structure ItSpec (P:Program) (k:FuncId) (c:ITC):Prop where
 enter:∀ args w,(callFunc k args).run P w=.ok (.enter k args) w
 calls:∀ (l:Nat) (I:List c.A.Den→Bool→(Nat→Prop)→(Nat→Prop)→World→Prop) (F Y:Nat→Prop) (w:World) (args:List Value) (x:c.ts.Den),RArgs P c.ts F w args x→c.pre x→Proto.Ok P ⟨l,c.A,fun T=>T=c.seq x,I⟩→
  (∀ r,F r→r<w.heap.size)→(∀ r,Y r→r<w.heap.size∧¬F r)→I [] false F Y w→Calls P k (args++[Value.func (.yield l) #[] #[]]).toArray w fun e w'=>
   ∃ v pre st F' Y',e=.returned v∧(st=false→pre=c.seq x)∧I pre st F' Y' w'∧(∀ r,F r→F' r)∧(∀ r,F' r→F r∨Y r∨w.heap.size≤r)∧(∀ r,F' r→r<w'.heap.size)∧
    (∀ r,r<w.heap.size→¬Y r→w'.heap[r]?=w.heap[r]?)∧(∀ r,Y' r→(Y r∨w.heap.size≤r)∧r<w'.heap.size∧¬F' r)∧w.heap.size≤w'.heap.size∧Calm w w'
def KC.Ok (P:Program) (U:FnTab) (k:FuncId):KC→Prop
 | .sc c=>FnSpec P k c.ts c.tr c.sh∧(c.det=true→∀ x,(c.sh x).Det)
 | .io c=>IoSpec P U k c
 | .it c=>ItSpec P k c
def PsiOk (P:Program) (U:FnTab) (Ψ:Nat→Option KC):Prop:=∀ k c,Ψ k=some c→c.Ok P U k
section
variable {C:Ctx} {T:Nat→Ty} {Φ:Nat→Option FC} {Ψ:Nat→Option KC} {s:AState} {o:Oper} {Q:Exit→Act→World→Prop} {ops:Array Oper}
theorem scOf_ok (hΦ:CtrOk C.P Φ) (hΨ:PsiOk C.P C.ft Ψ) {k:Nat} {c:SC} (h:scOf Φ Ψ k=some c):FnSpec C.P k c.ts c.tr c.sh:=by
 unfold scOf at h
 split at h
 ·rename_i c' hc'
  cases h
  have:KC.Ok C.P C.ft k (.sc c):=hΨ k _ hc'
  exact this.1
 ·cases h
 ·obtain ⟨f,hf,rfl⟩:=Option.map_eq_some_iff.1 h
  exact hΦ k f hf
theorem equalIn_slnil {P:Program} {w:World} {ty j:TypeId} (hj:P.underlying ty=some (.slice j)) (q:Option Addr) (n cap d:Nat):(Op.equalIn (d+1) ty (.slice q n cap) (.slice none 0 0)).run P w=.ok q.isNone w:=by
 cases q<;>simp [Op.equalIn,run_underlying' hj]
theorem eqGuard_sl {P:Program} {w:World} (op:BinOp) (t:TypeId) (x y:Operand) (q q':Option Addr) (n n' cap cap':Nat):(eqGuard op t x y (.slice q n cap) (.slice q' n' cap')).run P w=.ok () w:=by
 cases op<;>simp [eqGuard]
theorem slnil_run {P:Program} {w:World} {ty j:TypeId} {x y:Operand} (hj:P.underlying ty=some (.slice j)) (q:Option Addr) (n cap:Nat) :
  (do eqGuard .eql ty x y (.slice q n cap) (.slice none 0 0);binOp .eql ty (.slice q n cap) (.slice none 0 0):Sem Value).run P w=.ok (.bool q.isNone) w∧(do eqGuard .neq ty x y (.slice q n cap) (.slice none 0 0);binOp .neq ty (.slice q n cap) (.slice none 0 0):Sem Value).run P w=.ok (.bool (!q.isNone)) w:=by
 have h:(Op.equalIn 10000 ty (.slice q n cap) (.slice none 0 0)).run P w=.ok q.isNone w:=equalIn_slnil (w:=w) hj q n cap 9999
 constructor<;>simp [eqGuard_sl,binOp,Op.equal,Op.maxDepth,h]
theorem nilEqI_ok (hT:TabOk C.P T) (hdst:∀ i,o.dst=some i→i<C.nt) {op:BinOp} {ty ty':TypeId} {x y:Operand} (ho:o.op=.binOp op ty x y ty') {pr:PRes} (h:nilEqI C.ft T s o op ty x y=some pr):PrOk C o s pr:=by
 have hdf:∀ c,o.op≠.defer c:=by rw [ho];intro c hc;cases hc
 unfold nilEqI at h
 split at h
 ·rename_i e ht hye
  have hti:=hT.is ht (by simp)
  obtain ⟨j,hj,_⟩:=hti.sl
  split at h
  ·rename_i xs l hxs
   have key:∀ (a:Act) (w:World) (κ:Nat→KB) (F:Nat→Prop),RelK C s a w κ F→(use (opAV C.ft s.slot x)).1→∃ b:Bool,(b=true→xs=[])∧(op=.eql→(execOp a.eval o).run C.P w=.ok (.value (.bool b)) w)∧(op=.neq→(execOp a.eval o).run C.P w=.ok (.value (.bool (!b))) w):=by
    intro a w κ F hr hob
    have hx:=anyDen hr hxs (use_op hr x rfl hob)
    obtain ⟨_,q,cap,e1,m1,m2,m3,_⟩:=(RV_leaf rfl).1 hx
    have e1:=(List.cons.inj e1).1
    have hy:a.eval y=.slice none 0 0:=by
     have:=opAV_ok hr y
     rw [hye] at this
     exact this
    refine ⟨q.isNone,fun hq=>?_,fun hop=>?_,fun hop=>?_⟩
    ·have:cap=0:=m3 (by cases q with | none=>rfl | some _=>cases hq)
     exact List.length_eq_zero_iff.1 (by omega)
    ·subst hop
     have hr:=(slnil_run (w:=w) (x:=x) (y:=y) hj q xs.length cap).1
     rw [←e1,←hy] at hr
     simp only [execOp,ho,Sem.run_bind] at hr ⊢
     rw [hr]
     rfl
    ·subst hop
     have hr:=(slnil_run (w:=w) (x:=x) (y:=y) hj q xs.length cap).2
     rw [←e1,←hy] at hr
     simp only [execOp,ho,Sem.run_bind] at hr ⊢
     rw [hr]
     rfl
   split at h
   ·cases h
    refine ⟨fun a w Q K hr hob hm=>?_,fun gs hgs=>(by cases hgs),fun hb=>hb x (by rw [ho];simp [Op.operands])⟩
    obtain ⟨κ,F,hr⟩:=hr
    obtain ⟨b,b1,b2,_⟩:=key a w κ F hr hob
    exact oper_value hdf (b2 rfl) (hm.2 b b1 _ _ ⟨κ,F,RelK.set hr hdst (RV_bool.2 rfl)⟩)
   ·cases h
    refine ⟨fun a w Q K hr hob hm=>?_,fun gs hgs=>(by cases hgs),fun hb=>hb x (by rw [ho];simp [Op.operands])⟩
    obtain ⟨κ,F,hr⟩:=hr
    obtain ⟨b,b1,_,b2⟩:=key a w κ F hr hob
    exact oper_value hdf (b2 rfl) (hm.2 b b1 _ _ ⟨κ,F,RelK.set hr hdst (RV_bool.2 rfl)⟩)
   ·cases h
  ·cases h
 ·cases h
theorem progI_ok (hT:TabOk C.P T) (hΦ:CtrOk C.P Φ) (hΨ:PsiOk C.P C.ft Ψ) (hdst:∀ i,o.dst=some i→i<C.nt) {pr:PRes} (h:progI C.ft T Φ Ψ s o=some pr):PrOk C o s pr:=by
 unfold progI at h
 split at h
 ·rename_i c ho
  obtain ⟨callee,args,tys⟩:=c
  split at h
  ·rename_i f hf
   simp only at hf
   subst hf
   split at h
   ·split at h
    ·rename_i c' hc'
     exact ioI_ok hdst ho (hΨ _ _ hc') h
    ·split at h
     ·rename_i sc hsc
      exact scI_ok hdst ho (scOf_ok hΦ hΨ hsc) h
     ·cases h
   ·split at h
    ·rename_i r hr
     cases h
     exact fnI_ok hdst ho hr
    ·exact yldI_ok hdst ho h
   ·cases h
  ·cases h
 ·rename_i ty x ho
  exact rangeI_ok hT hdst ho h
 ·rename_i x str ho
  exact nextI_ok hdst ho h
 ·rename_i x ho
  exact entryI_ok hdst ho h
 ·rename_i op ty x y ty' ho
  exact nilEqI_ok hT hdst ho h
 ·cases h
theorem bw_eq (want b:Bool):((some b == some want:Bool))=bw want b:=by cases want<;>cases b<;>rfl
theorem yielded_val {a:Act} {j d:Nat} {oj:Oper} (h1:ops[j]?=some oj) (h2:oj.dst=some d) {b:Bool} (h:a.tmps.getD d Go.undef=.bool b):yielded ops a.tmps j=some b:=by
 have:a.tmps[d]?=some (.bool b):=by
  rw [Array.getD_eq_getD_getElem?] at h
  cases he:a.tmps[d]? with
  | none=>rw [he] at h;cases h
  | some v=>rw [he] at h;cases h;rfl
 simp [yielded,h1,h2,this]
theorem yielded_undef {a:Act} {j d:Nat} {oj:Oper} (h1:ops[j]?=some oj) (h2:oj.dst=some d) (h:a.tmps.getD d Go.undef=Go.undef):yielded ops a.tmps j=none:=by
 unfold yielded
 rw [h1]
 simp only [Option.bind_some,h2]
 rw [Array.getD_eq_getD_getElem?] at h
 cases he:a.tmps[d]? with
 | none=>rfl
 | some v=>rw [he] at h;cases h;rfl
theorem guardV_ok {a:Act} {w:World} {κ:Nat→KB} {F:Nat→Prop} (hr:RelK C s a w κ F) {g:Option Bool} (h:guardV s.slot ops o.guard=some g) :
  Region.wanted o (yielded ops a.tmps)=g.getD true:=by
 unfold Region.wanted
 cases hg:o.guard with
 | none=>rw [hg] at h;cases h;rfl
 | some p=>
  obtain ⟨j,want⟩:=p
  rw [hg] at h
  simp only [guardV] at h ⊢
  split at h
  ·rename_i oj hj
   split at h
   ·rename_i d hd
    have hs:=hr.slots d
    split at h
    ·rename_i b hb
     cases h
     rw [hb] at hs
     rw [yielded_val hj hd (RV_bool.1 hs),bw_eq]
     rfl
    ·rename_i g' b hb
     cases h
     rw [hb] at hs
     obtain ⟨h1,h2⟩:=hs
     cases g' with
     | true=>
      rw [yielded_val hj hd (RV_bool.1 (h1 rfl)),bw_eq]
      simp
     | false=>
      rw [yielded_undef hj hd (h2 rfl)]
      rfl
    ·cases h
   ·cases h
  ·cases h
theorem gwb_ok {ob c:Prop} {dv dv':AV} {wb wb':List (Nat×ABlk)} (hg:gwb o dv wb=some (wb',dv')) (h:(opV C.ft T Φ (opAV C.ft s.slot) o).run s.blk=some ⟨ob,c,dv,wb⟩) :
    (∀ a w,Rel C (s.app o.dst ⟨ob,c,dv,wb⟩) a w→Rel C ((s.setBs wb').set o.dst dv') a w)∧(∀ a w κ F,RelK C s a w κ F→∃ κ' F',RelK C (s.setBs wb') a w κ' F'):=by
  unfold gwb at hg
  split at hg
  · cases hg
    exact ⟨fun a w h=>h,fun a w κ F h=>⟨κ,F,h⟩⟩
  · rename_i p l'
    split at hg
    · rename_i fv first caps ho
      cases hg
      refine ⟨fun a w h=>h,fun a w κ F hr=>?_⟩
      simp only [opV,ho] at h
      split at h
      · split at h
        · split at h
          · simp only [Rd.run_bindO,Option.bind_eq_some_iff,Rd.run_bind,Rd.run_ret,Option.some.injEq] at h
            obtain ⟨⟨y,l⟩,hy,he⟩:=h
            obtain ⟨F',_,hr',_⟩:=RelK.frzL (asArgs_closed _ hy) hr
            have he:(frzB l).run s.blk=p::l':=by injection he
            rw [←he,setBs_frz]
            exact ⟨κ,F',hr'⟩
          · split at h
            · simp only [Rd.run_bindO,Option.bind_eq_some_iff,Rd.run_bind,Rd.run_ret,Option.some.injEq] at h
              obtain ⟨⟨y,l⟩,hy,he⟩:=h
              obtain ⟨F',_,hr',_⟩:=RelK.frzL (asArgs_closed _ hy) hr
              have he:(frzB l).run s.blk=p::l':=by injection he
              rw [←he,setBs_frz]
              exact ⟨κ,F',hr'⟩
            · simp only [okRes,Rd.run_ret,Option.some.injEq] at h
              cases h
        · split at h
          · simp only [okRes,Rd.run_ret,Option.some.injEq] at h
            cases h
          · cases h
      · cases h
    · rename_i ty n ps ho
      split at hg
      · rename_i b' g' e xs hbody
        split at hg
        · rename_i hbg
          obtain ⟨rfl,rfl⟩:=hbg
          cases hg
          obtain ⟨b,⟨gn,bd⟩⟩:=p
          simp only at hbody
          subst hbody
          have hnew:o.dst=some b∧gn=(s.blk b).gen+1:=by
            simp only [opV,ho] at h
            split at h
            · simp only [Rd.run_bindO,Option.bind_eq_some_iff,Rd.run_bind] at h
              obtain ⟨⟨ys,fl⟩,_,h⟩:=h
              obtain ⟨b0,hb0,hk⟩:=newB_some h
              split at hk
              · injection hk with hk
                injection hk with _ _ h3 _
                injection h3 with h4 h5
                subst h4
                exact ⟨hb0,h5.symm⟩
              · cases hk
            · cases h
          obtain ⟨hdst,rfl⟩:=hnew
          refine ⟨fun a w hrel=>?_,fun a w κ F hr=>?_⟩
          · obtain ⟨κ,F,hr⟩:=hrel
            rw [hdst] at hr ⊢
            simp only [AState.app,AState.setBs] at hr
            have hx:(asDen (.slice e) (.own b ((s.blk b).gen+1))).run ((s.setB b ⟨(s.blk b).gen+1,.arr e xs⟩).set (some b) (.own b ((s.blk b).gen+1))).blk=some (xs,[b]):=by
              simp [asDen,asTop,asLeaf,AState.set,AState.setB,castDen,Ty.isLeaf]
            obtain ⟨F1,f1,hr1,f2⟩:=RelK.frzL (asDen_closed hx) hr
            have hs:=hr.slots b
            have hv:=asDen_ok (v:=a.tmps.getD b undef) hr.blks f1 hx f2 (by simpa [AState.set] using hs)
            have hsl:∀ i,i≠b→((s.setB b ⟨(s.blk b).gen+1,.arr e xs⟩).set (some b) (.own b ((s.blk b).gen+1))).slot i=s.slot i:=fun i hi=>by simp [AState.set,AState.setB,hi]
            have hr2:RelK C ⟨fun i=>if i=b then .val (.slice e) xs else s.slot i,(((s.setB b ⟨(s.blk b).gen+1,.arr e xs⟩).set (some b) (.own b ((s.blk b).gen+1))).frz [b]).blk⟩ a w κ F1:=
              { hr1 with
                tsz:=hr1.tsz,dfr:=hr1.dfr,blks:=hr1.blks
                slots:=fun i=>by
                  show RA _ _ _ _ _ (if i=b then .val (.slice e) xs else s.slot i) _
                  split
                  · rename_i hi
                    subst hi
                    exact hv
                  · rename_i hi
                    rw [←hsl i hi]
                    exact hr1.slots i
                pro:=fun l A L n st e'=>by
                  have e':(if TRS=b then AV.val (.slice e) xs else s.slot TRS)=.tr l A L n st:=e'
                  split at e'
                  · cases e'
                  · rename_i hi
                    exact hr1.pro l A L n st ((hsl TRS hi).trans e') }
            refine ⟨κ,F1,hr2.weaken ⟨fun i=>.inl ?_,fun i=>?_⟩⟩
            · simp [AState.set,AState.setBs,AState.setB]
            · by_cases hi:i=b
              · subst hi
                right
                simp [AState.set,AState.setBs,AState.setB,AState.frz,fz]
              · left
                simp [AState.set,AState.setBs,AState.setB,AState.frz,hi]
          · have hn:=nilRow hr (b:=b) (e:=e)
            refine ⟨_,F,hn.weaken ⟨fun i=>.inl rfl,fun i=>?_⟩⟩
            by_cases hi:i=b
            · subst hi
              right
              simp [AState.setBs,AState.setB]
            · left
              simp [AState.setBs,AState.setB,hi]
        · cases hg
      · cases hg
    · cases hg
theorem rq_ret {β:Type} {b:Bool} {p:Prop} {m:M β} {O:β→Prop} (hb:b=true→p):M.Ret (rq b p m) O↔p∧M.Ret m O:=by
 cases b with
 | true=>exact ⟨fun h=>⟨hb rfl,h⟩,fun h=>h.2⟩
 | false=>exact M.ret_req
def TagOk (ops:Array Oper) (s:AState) (tg:Tags):Prop:=∀ p∈tg,∃ b a,s.slot p.1=.whn b a∧guardV s.slot ops (some p.2)=some (some b)
theorem isKey_iff {j d:Nat}:isKey ops j d=true↔d∈guardSlot ops (some (j,true)):=by
 have key:∀ (x:Option Oper),(match x with | some o=>(match o.dst with | some e=>e == d | none=>false) | none=>false)=true↔d∈(match x with | some o=>o.dst.toList | none=>[]):=by
  intro x
  cases x with
  | none=>simp
  | some oj=>
   cases hd:oj.dst with
   | none=>simp [hd]
   | some e=>simp only [hd,beq_iff_eq,Option.toList,List.mem_singleton];exact ⟨fun h=>h.symm,fun h=>h.symm⟩
 exact key _
theorem TagOk.up {s':AState} {tg:Tags} (h:TagOk ops s tg) (hs:∀ i,o.dst≠some i→s'.slot i=s.slot i)
  (hd:∀ d k,o.dst=some d→o.guard=some k→∃ b a,s'.slot d=.whn b a∧guardV s.slot ops (some k)=some (some b)):TagOk ops s' (tagUp ops tg o):=by
 unfold tagUp
 cases hdst:o.dst with
 | none=>
  intro p hp
  obtain ⟨b,a,h1,h2⟩:=h p hp
  refine ⟨b,a,(hs _ (by rw [hdst];simp)).trans h1,?_⟩
  rw [←h2]
  exact guardV_congr fun t _=>hs t (by rw [hdst];simp)
 | some d=>
  have congr:∀ k:Nat×Bool,isKey ops k.1 d=false→guardV s'.slot ops (some k)=guardV s.slot ops (some k):=fun k hk=>guardV_congr fun t ht=>hs t (by
   rw [hdst]
   intro e
   cases e
   have:isKey ops k.1 d=true:=isKey_iff.2 ht
   rw [hk] at this
   cases this)
  have old:TagOk ops s' (tg.filter fun p=>p.1 != d&&!isKey ops p.2.1 d):=by
   intro p hp
   simp only [List.mem_filter,Bool.and_eq_true,bne_iff_ne,ne_eq,Bool.not_eq_true'] at hp
   obtain ⟨b,a,h1,h2⟩:=h p hp.1
   refine ⟨b,a,(hs _ (by rw [hdst];exact fun e=>hp.2.1 (Option.some.inj e).symm)).trans h1,?_⟩
   rw [←h2]
   exact congr _ hp.2.2
  simp only
  split
  ·rename_i k hk
   split
   ·exact old
   ·rename_i hkey
    intro p hp
    rcases List.mem_cons.1 hp with rfl | hp
    ·obtain ⟨b,a,h1,h2⟩:=hd d k hdst hk
     exact ⟨b,a,h1,(congr k (by simpa using hkey)).trans h2⟩
    ·exact old p hp
  ·exact old
section
variable {U:FnTab} {tg:Tags} {gk:Option (Nat×Bool)}
theorem met_ok (hT:TagOk ops s tg) (hg:∀ k,gk=some k→guardV s.slot ops (some k)=some (some true)) {x:Operand} (h:met (opAV U s.slot) tg gk x=true):(use (opAV U s.slot x)).1:=by
 unfold met at h
 rw [Bool.or_eq_true] at h
 rcases h with h | h
 ·exact use_free (by simpa using h)
 ·split at h
  ·rename_i t k
   obtain ⟨p,hp,hpk⟩:=List.any_eq_true.1 h
   simp only [Bool.and_eq_true,beq_iff_eq] at hpk
   obtain ⟨rfl,h1,h2⟩:=hpk
   have hpk:p.2=k:=Prod.ext h1 h2
   obtain ⟨b,a,k1,k2⟩:=hT p hp
   rw [hpk,hg k rfl] at k2
   cases k2
   have e:opAV U s.slot (.tmp p.1)=s.slot p.1:=rfl
   rw [e,k1]
   exact rfl
  ·cases h
theorem allM_ok (hT:TagOk ops s tg) (hg:∀ k,gk=some k→guardV s.slot ops (some k)=some (some true)) (h:allM (opAV U s.slot) tg gk o=true):UseOk (opAV U s.slot) o:=
 fun x hx=>met_ok hT hg (List.all_eq_true.1 h x hx)
theorem metP_ok (hT:TagOk ops s tg) {c x:Operand} {want:Bool} {oc:Prop} {cv:Bool} (hc:use (opAV U s.slot c)=(oc,.val .bool cv)) (hoc:oc) (h:metP ops tg c x want=true) (hw:bw want cv=true):(use (opAV U s.slot x)).1:=by
 unfold metP at h
 split at h
 ·rename_i c t
  obtain ⟨p,hp,hpk⟩:=List.any_eq_true.1 h
  simp only [Bool.and_eq_true,beq_iff_eq] at hpk
  obtain ⟨rfl,h1,rfl⟩:=hpk
  obtain ⟨b,a,k1,k2⟩:=hT p hp
  have e:opAV U s.slot (.tmp p.1)=s.slot p.1:=rfl
  rw [e,k1]
  show b=true
  unfold isKey at h1
  have hp2:p.2=(p.2.1,p.2.2):=rfl
  rw [hp2] at k2
  unfold guardV at k2
  have hc':use (s.slot c)=(oc,.val .bool cv):=hc
  split at h1
  ·rename_i oj hj
   split at h1
   ·rename_i d hd
    have hdc:d=c:=by simpa using h1
    subst hdc
    simp only [hj,hd] at k2
    split at k2
    ·rename_i b0 hb0
     rw [hb0] at hc'
     simp only [use,Prod.mk.injEq,AV.val.injEq,heq_eq_eq,true_and] at hc'
     obtain ⟨_,rfl⟩:=hc'
     cases k2
     exact hw
    ·rename_i g0 b0 hb0
     rw [hb0] at hc'
     simp only [use,Prod.mk.injEq,AV.val.injEq,heq_eq_eq,true_and] at hc'
     obtain ⟨rfl,rfl⟩:=hc'
     cases k2
     simp [hoc,hw]
    ·cases k2
   ·cases h1
  ·cases h1
 ·cases h
theorem obM_ok (hT:TagOk ops s tg) (hg:∀ k,gk=some k→guardV s.slot ops (some k)=some (some true)) (h:obM (opAV U s.slot) ops tg gk o=true):(opV U T Φ (opAV U s.slot) o).All (optP fun r=>r.ob):=by
 cases ho:o.op with
 | pick c a b=>
  simp only [obM,ho,Bool.and_eq_true,Bool.or_eq_true] at h
  obtain ⟨h1,h2,h3⟩:=h
  unfold opV;rw [ho];simp only
  split
  ·rename_i oc cv hcv
   have hoc:oc:=by have:=met_ok hT hg h1;rw [hcv] at this;exact this
   split
   ·split
    ·rename_i oa av ha
     refine .okRes ⟨hoc,fun hv=>?_⟩
     have:(use (opAV U s.slot a)).1:=by
      rcases h2 with h2 | h2
      ·exact met_ok hT hg h2
      ·exact metP_ok hT hcv hoc h2 hv
     rw [ha] at this
     exact this
    ·exact .none'
   ·split
    ·rename_i oa av ha
     refine .okRes ⟨hoc,fun hv=>?_⟩
     have:(use (opAV U s.slot b)).1:=by
      rcases h3 with h3 | h3
      ·exact met_ok hT hg h3
      ·exact metP_ok hT hcv hoc h3 (by subst hv;rfl)
     rw [ha] at this
     exact this
    ·exact .none'
   ·exact .none'
  ·exact .none'
 | _=>
  simp only [obM,ho] at h
  exact opV_obU (allM_ok hT hg h)
theorem dvM_ok (hT:TagOk ops s tg) (hg:∀ k,gk=some k→guardV s.slot ops (some k)=some (some true)) {ob c:Prop} {dv dv':AV} {wb wb':List (Nat×ABlk)} (hw:gwb o dv wb=some (wb',dv')) (hr:(opV U T Φ (opAV U s.slot) o).run s.blk=some ⟨ob,c,dv,wb⟩)
  (h:dvM (opAV U s.slot) tg gk o dv'=true):(use dv').1:=by
 unfold dvM at h
 rw [Bool.or_eq_true] at h
 rcases h with h | h
 ·exact use_free (by simpa using h)
 ·split at h
  ·rename_i x ho
   simp only [opV,ho,okRes,Rd.run_ret,Option.some.injEq,OpRes.mk.injEq] at hr
   obtain ⟨_,_,rfl,rfl⟩:=hr
   simp only [gwb,Option.some.injEq,Prod.mk.injEq] at hw
   obtain ⟨_,rfl⟩:=hw
   exact met_ok hT hg h
  ·cases h
end
theorem AState.set_slot {s:AState} {d:Option Nat} {v:AV} {i:Nat} (h:d≠some i):(s.set d v).slot i=s.slot i:=by
 cases d with
 | none=>rfl
 | some d=>simp only [AState.set];rw [if_neg fun e=>h (by rw [e])]
theorem AState.set_slot' {s:AState} {d:Nat} {v:AV}:(s.set (some d) v).slot d=v:=by simp [AState.set]
theorem AState.setBs_slot:∀ (l:List (Nat×ABlk)) (s:AState),(s.setBs l).slot=s.slot
 | [],_=>rfl
 | p::l,s=>by
  have:=AState.setBs_slot l (s.setB p.1 p.2)
  exact this
theorem progI_gst {U:FnTab} {pr:PRes} {gs:Bool→pr.α→AState} (h:progI U T Φ Ψ s o=some pr) (hg:pr.gst=some gs):∀ g y,∃ v,(gs g y).slot=(s.set o.dst (.whn g v)).slot:=by
 have after:∀ (t:Ty) (fl:List Nat) (v:AV),(afterCall s o t fl v).slot=(s.set o.dst v).slot:=fun t fl v=>by
  unfold afterCall
  split
  ·rfl
  ·cases o.dst<;>rfl
 have sc:∀ {args:List Operand} {c:SC} {pr:PRes} {gs:Bool→pr.α→AState},scI U s o args c=some pr→pr.gst=some gs→∀ g y,∃ v,(gs g y).slot=(s.set o.dst (.whn g v)).slot:=by
  intro args c pr gs h hg
  unfold scI at h
  split at h
  ·cases h
   cases hg
   exact fun g y=>⟨_,after _ _ _⟩
  ·cases h
 have fc:∀ {t:Nat} {args:List Operand} {pr:PRes} {gs:Bool→pr.α→AState},fnI U s o t args=some pr→pr.gst=some gs→∀ g y,∃ v,(gs g y).slot=(s.set o.dst (.whn g v)).slot:=by
  intro t args pr gs h hg
  unfold fnI at h
  split at h
  ·split at h
   ·cases h
    cases hg
    exact fun g y=>⟨_,after _ _ _⟩
   ·cases h
  ·cases h
 unfold progI at h
 split at h
 ·split at h
  ·split at h
   ·split at h
    ·unfold ioI at h
     split at h
     ·split at h
      ·cases h;cases hg
      ·cases h
     ·cases h
    ·split at h
     ·exact sc h hg
     ·cases h
   ·split at h
    ·rename_i hr
     cases h
     exact fc hr hg
    ·unfold yldI at h
     split at h
     ·split at h
      ·cases h;cases hg
      ·cases h
     ·cases h
   ·cases h
  ·cases h
 ·unfold rangeI at h
  split at h
  ·split at h
   split at h
   ·split at h
    ·cases h
    ·cases h;cases hg
   ·cases h
  ·cases h
 ·unfold nextI at h
  split at h
  ·split at h
   ·split at h
    ·cases h;cases hg
    ·cases h
   ·cases h
  ·cases h
 ·unfold entryI at h
  split at h
  ·split at h
   ·split at h
    ·cases h;cases hg
    ·cases h
   ·cases h
  ·cases h
 ·unfold nilEqI at h
  split at h
  ·split at h
   ·split at h
    ·cases h;cases hg
    ·cases h;cases hg
    ·cases h
   ·cases h
  ·cases h
 ·cases h
theorem tmp?_some {x:Operand} {t:Nat} (h:tmp? x=some t):x=.tmp t:=by
 cases x<;>simp [tmp?] at h
 rw [h]
theorem fuse3_ok {o o2 o3 oU:Oper} {d1 d2:Nat} (h:fuse3 o o2 o3=some (oU,d1,d2)):∃ ty m x y,o.op=.mapEntry ty m x∧o.dst=some d1∧o2.op=.extract (.tmp d1) 1∧o2.dst=some d2∧o3.op=.entryStore ty m (.tmp d2) y∧o3.dst=none∧
  oU.op=.mapUpdate ty m x y∧oU.dst=none∧m≠.tmp d1∧m≠.tmp d2∧y≠.tmp d1∧y≠.tmp d2∧o.guard=none∧o2.guard=none∧o3.guard=none:=by
 unfold fuse3 at h
 split at h
 ·rename_i ty m x ho
  split at h
  ·rename_i e ho2
   split at h
   ·rename_i ty' m' e' y ho3
    split at h
    ·rename_i d1' d2' hd1 hd2 hd3
     split at h
     ·rename_i hc
      simp only [Option.some.injEq,Prod.mk.injEq] at h
      obtain ⟨rfl,rfl,rfl⟩:=h
      obtain ⟨c1,c2,rfl,c4,c5,c6,c7,c8,c9,c10,c11,c12,c13⟩:=hc
      obtain ⟨tm,htm⟩:=Option.isSome_iff_exists.1 c4
      have hm':=tmp?_some htm
      have hm:=tmp?_some (c5.symm.trans htm)
      have e1:=tmp?_some c1
      have e2:=tmp?_some c2
      subst e1;subst e2
      refine ⟨ty',m,x,y,ho,hd1,ho2,hd2,?_,hd3,rfl,hd3,fun e=>c7 (by rw [e];rfl),fun e=>c8 (by rw [e];rfl),fun e=>c9 (by rw [e];rfl),fun e=>c10 (by rw [e];rfl),Option.isNone_iff_eq_none.1 c11,Option.isNone_iff_eq_none.1 c12,Option.isNone_iff_eq_none.1 c13⟩
      rw [ho3,hm',hm]
     ·cases h
    ·cases h
   ·cases h
  ·cases h
 ·cases h
theorem regI_ok {β:Type} (hT:TabOk C.P T) (hΦ:CtrOk C.P Φ) (hΨ:PsiOk C.P C.ft Ψ) (hd:∀ o∈ops.toList,dstOk o C.nt=true) {k:AState→M β} {O:β→Prop}
  (hk:∀ s' a' w',Rel C s' a' w'→M.Ret (k s') O→Q .normal a' w'):∀ (os:List Oper) (n:Nat) (tg:Tags) (s:AState) (a:Act) (w:World),ops.toList.drop n=os→TagOk ops s tg→Rel C s a w→M.Ret (regI C.ft T Φ Ψ ops os tg s k) O→
   wpOpsIn (rnd C.r) 0 C.P ops Q (List.range' n os.length) a w:=by
 intro os
 generalize hlen:os.length=len
 induction len using Nat.strongRecOn generalizing os with
 | _ len ih0=>
 subst hlen
 cases os with
 | nil=>
  intro n tg s a w _ _ hr hm
  exact hk s a w hr hm
 | cons o os=>
  have ih:=ih0 os.length (by simp) os rfl
  intro n tg s a w hn htg hr hm
  have hlt:n<ops.toList.length:=by
   rcases Nat.lt_or_ge n ops.toList.length with h | h
   ·exact h
   ·rw [List.drop_eq_nil_of_le h] at hn;cases hn
  rw [List.drop_eq_getElem_cons hlt] at hn
  injection hn with hn1 hn2
  have hget:ops[n]?=some o:=by
   rw [←hn1];simp at hlt;simp [hlt]
  have hmem:o∈ops.toList:=hn1 ▸ List.getElem_mem hlt
  have hdo:=hd o hmem
  have hdst:∀ i,o.dst=some i→i<C.nt:=fun i hi=>by
   have:=hdo
   simp only [dstOk,Bool.and_eq_true] at this
   have:=this.1
   rw [hi] at this
   simpa using this
  simp only [List.length_cons,List.range'_succ,wpOpsIn,hget]
  obtain ⟨κ,F,hrk⟩:=hr
  unfold regI at hm
  split at hm
  ·rename_i oU d1 d2 hfu
   cases os with
   | nil=>exact hm.1.elim
   | cons o2 os=>
    cases os with
    | nil=>exact hm.1.elim
    | cons o3 os=>
     simp only at hm
     split at hm
     ·rename_i res hres
      obtain ⟨ty,m,x,y,f1,f2,f3,f4,f5,f6,f7,f8,f9,f10,f11,f12,g1,g2,g3⟩:=fuse3_ok hfu
      have hn2':=hn2
      have hlt2:n+1<ops.toList.length:=by
       rcases Nat.lt_or_ge (n+1) ops.toList.length with h | h
       ·exact h
       ·rw [List.drop_eq_nil_of_le h] at hn2';cases hn2'
      rw [List.drop_eq_getElem_cons hlt2] at hn2'
      injection hn2' with hn21 hn22
      have hlt3:n+2<ops.toList.length:=by
       rcases Nat.lt_or_ge (n+2) ops.toList.length with h | h
       ·exact h
       ·rw [List.drop_eq_nil_of_le h] at hn22;cases hn22
      rw [List.drop_eq_getElem_cons hlt3] at hn22
      injection hn22 with hn31 hn32
      have hget2:ops[n+1]?=some o2:=by
       rw [←hn21];simp at hlt2;simp [hlt2]
      have hget3:ops[n+2]?=some o3:=by
       rw [←hn31];simp at hlt3;simp [hlt3]
      have hd2:d2<C.nt:=by
       have:=hd o2 (hn21 ▸ List.getElem_mem hlt2)
       simp only [dstOk,Bool.and_eq_true] at this
       have:=this.1
       rw [f4] at this
       simpa using this
      rw [M.ret_req,M.ret_req] at hm
      have w1:Region.wanted o (yielded ops a.tmps)=true:=by unfold Region.wanted;rw [g1]
      have w2:∀ a':Act,Region.wanted o2 (yielded ops a'.tmps)=true:=fun a'=>by unfold Region.wanted;rw [g2]
      have w3:∀ a':Act,Region.wanted o3 (yielded ops a'.tmps)=true:=fun a'=>by unfold Region.wanted;rw [g3]
      have:=ok_entry3 (Q:=Q) (K:=fun a' w'=>wpOpsIn (rnd C.r) 0 C.P ops Q (List.range' (n+3) os.length) a' w') hT f1 f2 f3 f4 f5 f6 f7 f8 f9 f10 f11 f12 (hdst d1 f2) hd2 hres hrk hm.1 hm.2.1
       fun a' w' hr'=>ih0 os.length (by simp;omega) os rfl (n+3) [] _ a' w' hn32 (fun p hp=>by cases hp) hr' hm.2.2
      rw [w1]
      simp only [if_true]
      refine Oper.wpIn_mono (fun a1 w1' h1=>?_) this
      simp only [List.length_cons,List.range'_succ,wpOpsIn,hget2,w2,if_true]
      refine Oper.wpIn_mono (fun a2 w2' h2=>?_) h1
      simp only [Nat.add_assoc,hget3,w3,if_true]
      exact h2
     ·exact hm.1.elim
  split at hm
  ·exact hm.1.elim
  ·rename_i hg
   have hgn:o.guard=none:=by
    cases h:o.guard with
    | none=>rfl
    | some p=>
     rw [h] at hg
     simp only [guardV] at hg
     split at hg
     ·split at hg
      ·split at hg<;>cases hg
      ·cases hg
     ·cases hg
   rw [guardV_ok hrk hg]
   simp only [Option.getD_none,if_true]
   split at hm
   ·rename_i res hres
    rw [rq_ret fun hb=>(obM_ok htg (gk:=none) (fun k hk=>by cases hk) hb).run s.blk res hres,rq_ret fun hb=>(opV_c hb).run s.blk res hres] at hm
    refine Oper.wpIn_mono (fun a' w' hr'=>ih (n+1) _ _ a' w' hn2 (htg.up (fun i hi=>?_) fun d k _ hk=>by rw [hgn] at hk;cases hk) hr' hm.2.2) (opV_ok hT hΦ hdo hres a w κ F Q hrk hm.1 hm.2.1)
    unfold AState.app
    rw [AState.set_slot hi,AState.setBs_slot]
   ·split at hm
    ·rename_i pr hpr
     obtain ⟨p1,p2,p3⟩:=progI_ok hT hΦ hΨ hdst hpr
     rw [rq_ret fun hb=>p3 (obF_ok hb),M.ret_bind] at hm
     exact p1 a w Q _ ⟨κ,F,hrk⟩ hm.1 (hm.2.mono fun y hy a' w' hr'=>ih (n+1) _ _ a' w' hn2 (fun p hp=>by cases hp) hr' hy)
    ·exact hm.1.elim
  ·rename_i g hg
   have hgk:∀ k,o.guard=some k→g=true→guardV s.slot ops (some k)=some (some true):=fun k hk ht=>by rw [←hk,hg,ht]
   rw [guardV_ok hrk hg]
   simp only [Option.getD_some]
   split at hm
   ·rename_i ob c dv0 wb0 hres
    split at hm
    ·rename_i wb dv hwb
     obtain ⟨gw1,gw2⟩:=gwb_ok hwb hres
     rw [rq_ret fun hb=>by
      simp only [Bool.and_eq_true] at hb
      exact fun hgt=>⟨(obM_ok htg (fun k hk=>hgk k hk hgt) hb.1).run s.blk _ hres,(opV_c hb.2.1).run s.blk _ hres,dvM_ok htg (fun k hk=>hgk k hk hgt) hwb hres hb.2.2⟩] at hm
     have htg':TagOk ops ((s.setBs wb).set o.dst (.whn g (use dv).2)) (tagUp ops tg o):=htg.up (fun i hi=>by rw [AState.set_slot hi,AState.setBs_slot]) fun d k hd hk=>⟨g,(use dv).2,by rw [hd,AState.set_slot'],by rw [←hk,hg]⟩
     cases g with
     | true=>
      simp only [if_true]
      obtain ⟨h1,h2,h3⟩:=hm.1 rfl
      refine Oper.wpIn_mono (fun a' w' hr'=>ih (n+1) _ _ a' w' hn2 htg' (Rel.reslot (av':=.whn true (use dv).2) (gw1 a' w' hr') hdst fun κ F v hv=>⟨fun _=>use_ok hv h3,fun h=>(by cases h)⟩) hm.2) (opV_ok hT hΦ hdo hres a w κ F Q hrk h1 h2)
     | false=>
      simp only [Bool.false_eq_true,if_false]
      refine ⟨fun _ _=>trivial,ih (n+1) _ _ _ w hn2 htg' ?_ hm.2⟩
      obtain ⟨κ',F',hrk'⟩:=gw2 a w κ F hrk
      exact ⟨κ',F',hrk'.set (av:=.whn false (use dv).2) hdst ⟨fun h=>(by cases h),fun _=>rfl⟩⟩
    ·cases g with
     | true=>
      simp only [if_true] at hm ⊢
      rw [M.ret_req,M.ret_req] at hm
      exact Oper.wpIn_mono (fun a' w' hr'=>ih (n+1) _ _ a' w' hn2 (fun p hp=>by cases hp) hr' hm.2.2) (opV_ok hT hΦ hdo hres a w κ F Q hrk hm.1 hm.2.1)
     | false=>
      simp only [Bool.false_eq_true,if_false] at hm ⊢
      exact ⟨fun _ _=>trivial,ih (n+1) _ _ _ w hn2 (fun p hp=>by cases hp) ⟨κ,F,hrk.set (av:=.whn false (offV wb0 (use dv0).2)) hdst ⟨fun h=>(by cases h),fun _=>rfl⟩⟩ hm⟩
   ·split at hm
    ·rename_i pr hpr
     obtain ⟨p1,p2,p3⟩:=progI_ok hT hΦ hΨ hdst hpr
     split at hm
     ·rename_i gs hgs
      obtain ⟨q1,q2⟩:=p2 gs hgs
      rw [rq_ret fun hb hgt=>p3 (allM_ok htg (fun k hk=>hgk k hk hgt) hb),M.ret_bind] at hm
      have htg':∀ y,TagOk ops (gs g y) (tagUp ops tg o):=fun y=>by
       obtain ⟨v,hv⟩:=progI_gst hpr hgs g y
       exact htg.up (fun i hi=>by rw [hv,AState.set_slot hi]) fun d k hd hk=>⟨g,v,by rw [hv,hd,AState.set_slot'],by rw [←hk,hg]⟩
      cases g with
      | true=>
       simp only [if_true]
       exact p1 a w Q _ ⟨κ,F,hrk⟩ (hm.1 rfl) (hm.2.mono fun y hy a' w' hr'=>ih (n+1) _ _ a' w' hn2 (htg' y) (q1 y a' w' hr') hy)
      | false=>
       simp only [Bool.false_eq_true,if_false]
       exact ⟨fun _ _=>trivial,ih (n+1) _ _ _ w hn2 (htg' pr.d) (q2 a w ⟨κ,F,hrk⟩) (by
        have h:=hm.2
        simp only [gdo,Bool.false_eq_true,if_false] at h
        exact h.2 pr.d rfl)⟩
     ·cases g with
      | true=>
       simp only [if_true] at hm ⊢
       rw [M.ret_req,M.ret_bind] at hm
       exact p1 a w Q _ ⟨κ,F,hrk⟩ hm.1 (hm.2.mono fun y hy a' w' hr'=>ih (n+1) _ _ a' w' hn2 (fun p hp=>by cases hp) hr' hy)
      | false=>
       simp only [Bool.false_eq_true,if_false] at hm ⊢
       exact ⟨fun _ _=>trivial,ih (n+1) _ _ _ w hn2 (fun p hp=>by cases hp) ⟨κ,F,hrk.set (av:=.whn false (use ((pr.st pr.d).slot (o.dst.getD 0))).2) hdst ⟨fun h=>(by cases h),fun _=>rfl⟩⟩ hm⟩
    ·exact hm.1.elim
end
end Go.Fer
namespace Go.Fer
open Go.RowKit
section
variable {C:Ctx} {T:Nat→Ty} {Φ:Nat→Option FC} {s:AState} {res:OpRes}
theorem RC_cmp {P:Program}:∀ (t:Ty),t.comparable=true→∀ {F F':Nat→Prop} {w w':World} {cs:List Value} {x:t.Den},RC P t F w cs x→RC P t F' w' cs x:=by
 intro t
 induction t with
 | bool=>intro _ F F' w w' cs x h;exact h
 | int k=>intro _ F F' w w' cs x h;exact h
 | str=>intro _ F F' w w' cs x h;exact h
 | unit=>intro hc;cases hc
 | st t ih=>intro hc F F' w w' cs x h;simp only [RC] at h ⊢;exact ih hc h
 | prod a b iha ihb=>
  intro hc F F' w w' cs x h
  simp only [Ty.comparable,Bool.and_eq_true] at hc
  simp only [RC] at h ⊢
  obtain ⟨c,d,rfl,ha,hb⟩:=h
  exact ⟨c,d,rfl,iha hc.1 ha,ihb hc.2 hb⟩
 | slice e ih=>intro hc;cases hc
 | array n e ih=>intro hc;cases hc
 | ptr e ih=>intro hc;cases hc
 | map k v ihk ihv=>intro hc;cases hc
 | fn a b iha ihb=>intro hc;cases hc
 | it a ih=>intro hc;cases hc
theorem RV_cmp {P:Program} {t:Ty} (h:t.comparable=true) {F F':Nat→Prop} {w w':World} {v:Value} {x:t.Den} (hv:RV P t F w v x):RV P t F' w' v x:=⟨hv.1,RC_cmp t h hv.2⟩
theorem put_comm (a:Act) {i j:Nat} (h:i≠j) (v u:Value):(a.put (some i) v).put (some j) u=(a.put (some j) u).put (some i) v:=by
 simp only [Act.put]
 rw [Array.setIfInBounds_comm _ _ h]
theorem lookup_at {P:Program} {ty kid vid:TypeId} (hi:P.underlying ty=some (.map kid vid)) {r:Nat} {ms:Array MapEntry} {clk:Nat} {w:World} (hw:w.heap[r]?=some (.map ms clk)) {key u:Value} {f:Option (Nat×Value)}
  (hck:(Instr.checkKey ms.isEmpty 10000 kid key).run P w=.ok () w) (hf:(Instr.findKey kid key ms.toList).run P w=.ok f w) (hu:(∃ i,f=some (i,u))∨(f=none∧(zeroValue vid).run P w=.ok u w)) :
  (Instr.lookup ty (.map (some r)) key false).run P w=.ok u w:=by
 have hget:(getObj r).run P w=.ok (.map ms clk) w:=by simp [getObj,Sem.run,hw]
 rcases hu with ⟨i,rfl⟩ | ⟨rfl,hz⟩
 ·simp only [Instr.lookup,Sem.run_bind,run_underlying' hi,Result.andThen_ok,Sem.run_pure,hget,hck,hf]
  rfl
 ·simp only [Instr.lookup,Sem.run_bind,run_underlying' hi,Result.andThen_ok,Sem.run_pure,hget,hck,hf,hz]
  rfl
theorem ent_facts (hT:TabOk C.P T) {oL oE oU:Oper} {ty:TypeId} {m x y:Operand} (hL:oL.op=.lookup ty m x false) (hE:oE.op=.mapEntry ty m x) (hU:oU.op=.mapUpdate ty m x y) {s2:AState} (hb2:s2.blk=s.blk)
  (hm2:opAV C.ft s2.slot m=opAV C.ft s.slot m) (hx2:opAV C.ft s2.slot x=opAV C.ft s.slot x) (h:(opV C.ft T Φ (opAV C.ft s2.slot) oU).run s2.blk=some res)
  {a:Act} {w:World} {κ:Nat→KB} {F:Nat→Prop} (hr:RelK C s a w κ F) (hobm:(use (opAV C.ft s.slot m)).1) (hobx:(use (opAV C.ft s.slot x)).1) :
  ∃ u n wE,∀ a':Act,a'.eval m=a.eval m→a'.eval x=a.eval x→
   (execOp a'.eval oL).run C.P w=.ok (.value u) w∧(execOp a'.eval oL).run C.P wE=.ok (.value u) wE∧(execOp a'.eval oE).run C.P w=.ok (.value (.tuple #[u,goInt n])) wE:=by
 simp only [opV,hU,mapUpV,hm2,hx2,hb2] at h
 split at h
 ·rename_i k v ht
  obtain ⟨kid,vid,hi,hik,hiv⟩:=(hT.is ht (by simp)).mp
  obtain ⟨inf,zv,i1,i2,i3,i4,i5,i6⟩:=infoOk_out hiv.info
  split at h
  ·rename_i hck0
   split at h
   ·rename_i b g hme
    simp only [Rd.run_bindO,Option.bind_eq_some_iff,Rd.run_bind,Rd.run_get,Rd.run_ret] at h
    obtain ⟨⟨x',lx⟩,hx,⟨y',ly⟩,hy,h⟩:=h
    split at h
    ·rename_i hg
     obtain ⟨hg,_⟩:=hg
     split at h
     ·rename_i k' v' es hb
      simp only [Option.map_eq_some_iff] at h
      obtain ⟨es',hes,rfl⟩:=h
      obtain ⟨e,rfl⟩:=castDen_some hes
      cases e
      have hm:RA C.P s.blk κ F w (use (opAV C.ft s.slot m)).2 (a.eval m):=use_op hr m rfl hobm
      rw [hme] at hm
      have hmv:=hm.2 hg.symm (by rw [hb];rfl)
      have kc:k.comparable=true∧k.nest≤100:=by simpa [keyOk] using hck0
      have hkx:=anyDen hr hx (use_op hr x rfl hobx)
      have hkx':∀ (F':Nat→Prop) w',RV C.P k F' w' (a.eval x) x':=fun F' w'=>RV_cmp kc.1 hkx
      have hB:=hr.blks b
      unfold HB at hB
      rw [hb] at hB
      obtain ⟨ms,clk,hw,hM⟩:=hB
      have hck:∀ em w',(Instr.checkKey em 10000 kid (a.eval x)).run C.P w'=.ok () w':=fun em w'=>(checkKey_ok (em:=em) (F:=fun _=>True) k 10000 kc.1 (by omega)).1 hik (hkx' _ w')
      have hEs:=hM.es
      have hkey:∀ (j:Nat) (e:MapEntry) (p:k.Den×v.Den),ms.toList[j]?=some e→es[j]?=some p→∀ (F':Nat→Prop) w',RV C.P k F' w' e.key p.1:=fun j e p h1 h2 F' w'=>RV_cmp kc.1 (hEs.2 j e p h1 h2).1
      obtain ⟨f,q1,q2⟩:=findKey_ok (F:=fun _=>True) (w:=w) (β:=v.Den) (xs:=es) (es:=ms.toList) hck0 hik (hkx' _ w) hEs.1 (fun j e p h1 h2=>hkey j e p h1 h2 _ w)
      have hget:(getObj (κ b).blk).run C.P w=.ok (.map ms clk) w:=by simp [getObj,Sem.run,hw]
      obtain ⟨ksz,knd,kent,kborn⟩:=hM
      have hlt:(κ b).blk<w.heap.size:=(Array.getElem?_eq_some_iff.1 hw).1
      have hz:∀ w',(zeroValue vid).run C.P w'=.ok zv w':=fun w'=>run_zeroValue' i1 i4
      have exL:∀ (a':Act) (w':World) (u:Value),a'.eval m=a.eval m→a'.eval x=a.eval x→(Instr.lookup ty (.map (some (κ b).blk)) (a.eval x) false).run C.P w'=.ok u w'→(execOp a'.eval oL).run C.P w'=.ok (.value u) w':=by
       intro a' w' u e1 e2 hr'
       simp only [execOp,hL,e1,e2,hmv,Sem.run_bind,hr',Result.andThen_ok,Sem.run_pure]
      have eqx:∀ q:k.Den,eqDen k x' q=true↔x'=q:=fun q=>eqDen_iff k kc.1 x' q
      rcases q2 with ⟨rfl,hne⟩ | ⟨j,e,p,g1,g2,g3,g4,rfl⟩
      ·let w1:World:={ w with heap:=w.heap.setIfInBounds (κ b).blk (.map (ms.push { key:=a.eval x,val:=zv,born:=clk }) (clk+1)) }
       have hw1:w1.heap[(κ b).blk]?=some (.map (ms.push { key:=a.eval x,val:=zv,born:=clk }) (clk+1)):=by simp [w1,hlt]
       obtain ⟨f',r1,r2⟩:=findKey_ok (F:=fun _=>True) (w:=w1) (β:=v.Den) (xs:=es++[(x',v.dflt)]) (es:=(ms.push { key:=a.eval x,val:=zv,born:=clk }).toList) hck0 hik (hkx' _ w1) (by simp;exact ksz) (fun j e p h1 h2=>by
        rw [Array.toList_push] at h1
        by_cases hj:j<ms.toList.length
        ·rw [List.getElem?_append_left hj] at h1
         rw [List.getElem?_append_left (by rw [←hEs.1];exact hj)] at h2
         exact hkey j e p h1 h2 _ w1
        ·rw [List.getElem?_append_right (by omega)] at h1
         rw [List.getElem?_append_right (by rw [←hEs.1];omega)] at h2
         rw [hEs.1] at h1
         cases hq:j - es.length with
         | zero=>
          rw [hq] at h1 h2
          simp only [List.getElem?_cons_zero,Option.some.injEq] at h1 h2
          subst h1;subst h2
          exact hkx' _ w1
         | succ q=>rw [hq] at h1;simp at h1)
       have hf':∃ i,f'=some (i,zv):=by
        rcases r2 with ⟨_,r3⟩ | ⟨j,e,p,s1,s2,s3,s4,rfl⟩
        ·have:=r3 (x',v.dflt) (by simp)
         rw [(eqx x').2 rfl] at this;cases this
        ·by_cases hj:j<es.length
         ·rw [List.getElem?_append_left hj] at s2
          have:=hne p (List.mem_of_getElem? s2)
          rw [s3] at this;cases this
         ·rw [Array.toList_push,List.getElem?_append_right (by rw [hEs.1];omega)] at s1
          rw [hEs.1] at s1
          cases hq:j - es.length with
          | zero=>rw [hq] at s1;simp at s1;subst s1;exact ⟨_,rfl⟩
          | succ q=>rw [hq] at s1;simp at s1
       refine ⟨zv,clk,w1,fun a' e1 e2=>⟨exL a' w zv e1 e2 (lookup_at hi hw (hck _ w) q1 (.inr ⟨rfl,hz w⟩)),exL a' w1 zv e1 e2 (lookup_at hi hw1 (hck _ w1) r1 (.inl hf')),?_⟩⟩
       simp only [execOp,hE,e1,e2,hmv,Instr.mapEntry,Sem.run_bind,run_underlying' hi,Result.andThen_ok,hget,hck,q1,hz,setObj_run hw,Sem.run_pure]
       rfl
      ·have hj:j<es.length:=(List.getElem?_eq_some_iff.1 g2).1
       have hjm:j<ms.size:=by omega
       have hej:ms[j]=e:=by
        have:=(List.getElem?_eq_some_iff.1 g1).2
        simpa using this
       obtain ⟨kk,w1,t1,t2,t3⟩:=keyStays_run C.P w e.key (a.eval x)
       have hw1:w1.heap[(κ b).blk]?=some (.map ms clk):=by rcases t3 with rfl | rfl<;>exact hw
       have hlt1:(κ b).blk<w1.heap.size:=(Array.getElem?_eq_some_iff.1 hw1).1
       have hold:((ms[j]?).map (·.key)).getD (a.eval x)=e.key:=by
        rw [Array.getElem?_eq_getElem hjm,hej];rfl
       have hborn:((ms[j]?).map (fun x=>(x.born:Int))).getD 0=(ms[j].born:Int):=by rw [Array.getElem?_eq_getElem hjm];rfl
       rw [Nat.zero_add] at q1
       have hxp:x'=p.1:=(eqx p.1).1 g3
       let w2:World:={ w1 with heap:=w1.heap.setIfInBounds (κ b).blk (.map (ms.modify j fun e=>{ e with key:=kk }) clk) }
       have hw2:w2.heap[(κ b).blk]?=some (.map (ms.modify j fun e=>{ e with key:=kk }) clk):=by simp [w2,hlt1]
       have hkk:∀ (F':Nat→Prop) w',RV C.P k F' w' kk p.1:=fun F' w'=>by
        rcases t2 with rfl | rfl
        ·rw [←hxp];exact hkx' F' w'
        ·exact hkey j e p g1 g2 F' w'
       have hmod:∀ i,(ms.modify j fun e=>{ e with key:=kk }).toList[i]?=if i=j then some { e with key:=kk } else ms.toList[i]?:=fun i=>by
        rw [Array.getElem?_toList,Array.getElem?_toList]
        rw [Array.getElem?_modify]
        by_cases hij:j=i
        ·subst hij;simp [hjm,hej]
        ·rw [if_neg hij,if_neg (fun e=>hij e.symm)]
       obtain ⟨f',r1,r2⟩:=findKey_ok (F:=fun _=>True) (w:=w2) (β:=v.Den) (xs:=es) (es:=(ms.modify j fun e=>{ e with key:=kk }).toList) hck0 hik (hkx' _ w2) (by simpa using ksz) (fun i e' p' h1 h2=>by
        rw [hmod] at h1
        split at h1
        ·rename_i hij
         subst hij
         rw [g2] at h2
         cases h1;cases h2
         exact hkk _ w2
        ·exact hkey i e' p' h1 h2 _ w2)
       have hf':∃ i,f'=some (i,e.val):=by
        rcases r2 with ⟨_,r3⟩ | ⟨i,e',p',s1,s2,s3,s4,rfl⟩
        ·have:=r3 p (List.mem_of_getElem? g2)
         rw [g3] at this;cases this
        ·have hij:i=j:=by
          rcases Nat.lt_trichotomy i j with h | h | h
          ·have:=g4 i p' h s2;rw [s3] at this;cases this
          ·exact h
          ·have:=s4 j p h g2;rw [g3] at this;cases this
         subst hij
         rw [hmod,if_pos rfl] at s1
         cases s1
         exact ⟨_,rfl⟩
       refine ⟨e.val,ms[j].born,w2,fun a' e1 e2=>⟨exL a' w e.val e1 e2 (lookup_at hi hw (hck _ w) q1 (.inl ⟨_,rfl⟩)),exL a' w2 e.val e1 e2 (lookup_at hi hw2 (hck _ w2) r1 (.inl hf')),?_⟩⟩
       simp only [execOp,hE,e1,e2,hmv,Instr.mapEntry,Sem.run_bind,run_underlying' hi,Result.andThen_ok,hget,hck,q1]
       rw [hold,t1]
       simp only [Result.andThen_ok,setObj_run hw1,Sem.run_pure,hborn]
       rfl
     ·cases h
    ·cases h
   ·cases h
  ·cases h
 ·cases h
end
end Go.Fer
namespace Go.Fer
open Go.RowKit
section
variable {C:Ctx} {T:Nat→Ty} {Φ:Nat→Option FC} {Ψ:Nat→Option KC} {s:AState} {o:Oper} {Q:Exit→Act→World→Prop} {ops:Array Oper}
theorem M.val_eq {α:Type} {m:M α} (h:m.Det) {d x:α} (hx:m.out x):x=m.val d:=by
 unfold M.val
 have he:∃ x,m.out x:=⟨x,hx⟩
 rw [dif_pos he]
 exact h _ _ hx he.choose_spec
theorem dPhi_ok (hΦ:CtrOk C.P Φ) (hΨ:PsiOk C.P C.ft Ψ):CtrOk C.P (dPhi Φ Ψ):=by
 intro k c h
 unfold dPhi at h
 split at h
 ·rename_i sc hsc
  split at h
  ·rename_i hd
   cases h
   have h:=hΨ k _ hsc
   obtain ⟨h1,h2⟩:FnSpec C.P k sc.ts sc.tr sc.sh∧(sc.det=true→∀ x,(sc.sh x).Det):=h
   exact h1.weaken fun x hs=>⟨hs,fun y hy=>M.val_eq (h2 hd x) hy⟩
  ·cases h
 ·cases h
 ·exact hΦ k c h
theorem reqs_ret {β:Type} {m:M β} {O:β→Prop}:∀ (l:List Prop),M.Ret (reqs l m) O→(∀ p∈l,p)∧M.Ret m O:=by
 intro l
 induction l with
 | nil=>intro h;exact ⟨fun p hp=>(by cases hp),h⟩
 | cons p l ih=>
  intro h
  simp only [reqs] at h
  rw [M.ret_req] at h
  obtain ⟨h1,h2⟩:=ih h.2
  refine ⟨fun q hq=>?_,h2⟩
  rcases List.mem_cons.1 hq with rfl | hq
  ·exact h.1
  ·exact h1 q hq
theorem condsU_spec {q1 q2:Bool} {ob c:Prop} (h1:q1=true→ob) (h2:q2=true→c) (h:∀ p∈condsU q1 q2 ob c,p):ob∧c:=by
 unfold condsU at h
 constructor
 ·cases q1 with
  | true=>exact h1 rfl
  | false=>exact h ob (by simp)
 ·cases q2 with
  | true=>exact h2 rfl
  | false=>exact h c (by simp)
theorem stepS_ok (hT:TabOk C.P T) (hΦ:CtrOk C.P Φ) (hd:dstOk o C.nt=true) {r:SR} (h:stepS C.ft T Φ ops s o=some r) (hc:∀ p∈r.cs,p) {a:Act} {w:World} (hr:Rel C s a w) {K:Act→World→Prop}
  (hK:∀ a' w',Rel C (r.upd s) a' w'→K a' w') :
  if Region.wanted o (yielded ops a.tmps) then o.wpIn (rnd C.r) 0 C.P a w K Q else (∀ f,o.about C.P w a.eval=some f→(rnd C.r).fn f)∧K (a.put o.dst undef) w:=by
 have hdst:∀ i,o.dst=some i→i<C.nt:=fun i hi=>by
  have:=hd
  simp only [dstOk,Bool.and_eq_true] at this
  have:=this.1
  rw [hi] at this
  simpa using this
 obtain ⟨κ,F,hrk⟩:=hr
 unfold stepS at h
 split at h
 ·cases h
 ·rename_i g hg
  rw [guardV_ok hrk hg]
  split at h
  ·cases h
  ·rename_i res hres
   split at h
   ·cases h
    simp only [Option.getD_none,if_true]
    obtain ⟨h1,h2⟩:=condsU_spec (fun hb=>(opV_ob hb).run s.blk res hres) (fun hb=>(opV_c hb).run s.blk res hres) hc
    exact Oper.wpIn_mono hK (opV_ok hT hΦ hd hres a w κ F Q hrk h1 h2)
   ·rename_i b
    split at h
    ·rename_i hwb
     cases h
     have hc:∀ p∈condsU (obF (opAV C.ft s.slot) o&&(cF (opAV C.ft s.slot) o&&!res.dv.isWhn)) true (b=true→res.ob∧(res.c∧(use res.dv).1)) True,p:=hc
     obtain ⟨h1,_⟩:=condsU_spec (fun hb=>by
      simp only [Bool.and_eq_true,Bool.not_eq_true'] at hb
      exact fun _=>⟨(opV_ob hb.1).run s.blk _ hres,(opV_c hb.2.1).run s.blk _ hres,use_free hb.2.2⟩) (fun _=>trivial) hc
     obtain ⟨ob,c,dv,wb⟩:=res
     simp only at hwb
     subst hwb
     cases b with
     | true=>
      simp only [Option.getD_some,if_true]
      obtain ⟨h1,h2,h3⟩:=h1 rfl
      refine Oper.wpIn_mono (fun a' w' hr'=>hK a' w' ?_) (opV_ok hT hΦ hd hres a w κ F Q hrk h1 h2)
      exact Rel.reslot (av':=.whn true (use dv).2) hr' hdst fun κ F v hv=>⟨fun _=>use_ok hv h3,fun h=>(by cases h)⟩
     | false=>
      simp only [Option.getD_some,Bool.false_eq_true,if_false]
      exact ⟨fun _ _=>trivial,hK _ _ ⟨κ,F,hrk.set (av:=.whn false (use dv).2) hdst ⟨fun h=>(by cases h),fun _=>rfl⟩⟩⟩
    ·cases h
theorem sufGo_spec (cl:List (List Nat)):∀ n,sufGo cl n≤n∧∀ j,sufGo cl n≤j→j<n→∀ i,i<j→i∈cl.getD j []
 | 0=>⟨Nat.le_refl _,fun j _ h=>by omega⟩
 | n+1=>by
  unfold sufGo
  split
  ·rename_i h
   obtain ⟨h1,h2⟩:=sufGo_spec cl n
   refine ⟨by omega,fun j hj hjn i hi=>?_⟩
   by_cases e:j=n
   ·subst e
    have:=List.all_eq_true.1 h i (List.mem_range.2 hi)
    simpa using this
   ·exact h2 j hj (by omega) i hi
  ·exact ⟨Nat.le_refl _,fun j h1 h2=>by omega⟩
theorem draw_suf {n:Nat} (hedge:edgesOk ops.toList=true) (hsuf:∀ j,n≤j→j<ops.size→∀ i,i<j→i∈(closure ops.toList).getD j []):∀ (k j fuel:Nat) (listed:Array Bool) (a:Act) (w:World),n≤j→j+k=ops.size→listed.size=ops.size→
  (∀ i,listed.getD i false=decide (i<j))→k≤fuel→wpOpsIn (rnd C.r) 0 C.P ops Q (List.range' j k) a w→wpAnyIn (rnd C.r) 0 C.P .any ops Q fuel listed a w:=by
 intro k
 induction k with
 | zero=>
  intro j fuel listed a w hnj hjk hsz hl hf h
  have hr:∀ i,i ∉ Region.ready .any ops listed:=fun i hi=>by
   rw [mem_ready] at hi
   obtain ⟨h0,o,ho,_⟩:=hi
   have hin:i<ops.size:=(Array.getElem?_eq_some_iff.1 ho).1
   have h1:=hl i
   rw [Array.getD_eq_getD_getElem?] at h0 h1
   rw [Array.getElem?_eq_getElem (by omega)] at h0 h1
   have h0:listed[i]'(by omega)=false:=h0
   have h1:listed[i]'(by omega)=decide (i<j):=h1
   rw [h0] at h1
   have:i<j:=by omega
   simp [this] at h1
  have hr0:Region.ready .any ops listed=[]:=List.eq_nil_iff_forall_not_mem.2 hr
  cases fuel with
  | zero=>exact ⟨hr0,h⟩
  | succ fuel=>exact ⟨fun _=>h,fun i hi=>absurd hi (hr i)⟩
 | succ k ih=>
  intro j fuel listed a w hnj hjk hsz hl hf h
  have hj:j<ops.size:=by omega
  cases fuel with
  | zero=>omega
  | succ fuel=>
   have hdown:∀ q o,ops[q]?=some o→listed.getD q false=true→∀ i∈direct o,listed.getD i false=true:=fun q o ho hq i hi=>by
    rw [hl] at hq ⊢
    have hq:q<j:=by simpa using hq
    have:=List.all_eq_true.1 hedge q (by simp;omega)
    rw [show ops.toList[q]?=some o by simpa using ho] at this
    have:=List.all_eq_true.1 this i hi
    simp only [decide_eq_true_eq] at this ⊢
    omega
   have hready:∀ i,i∈Region.ready .any ops listed↔i=j:=fun i=>by
    constructor
    ·intro hi
     rw [mem_ready] at hi
     obtain ⟨h0,o,ho,hafter⟩:=hi
     have hin:i<ops.size:=(Array.getElem?_eq_some_iff.1 ho).1
     have h0':listed.getD i false=false:=by
      rw [Array.getD_eq_getD_getElem?] at h0 ⊢
      rw [Array.getElem?_eq_getElem (by omega)] at h0 ⊢
      exact h0
     rw [hl] at h0'
     have hge:j≤i:=by simpa using h0'
     by_cases e:i=j
     ·exact e
     ·exfalso
      have hdir:∀ k∈direct o,listed.getD k false=true:=by
       intro k hk
       obtain ⟨e,he,hek⟩:=List.mem_filterMap.1 hk
       split at hek
       ·rename_i hb
        cases hek
        exact hafter e (by simpa using he) hb
       ·cases hek
      have hcl2:∀ k∈(closure ops.toList).getD i [],listed.getD k false=true∨k=i:=by
       intro k hk
       refine closure_ok (p:=fun j=>listed.getD j false=true∨j=i) ops.toList [] (fun j i hi=>by simp at hi) (fun j o' ho' k hk hj=>?_) i k hk (.inr rfl)
       have ho'':ops[j]?=some o':=by simpa using ho'
       rcases (by simpa using hj:listed.getD j false=true∨j=i) with hj | hj
       ·exact .inl (hdown j o' ho'' hj k hk)
       ·subst hj
        rw [ho] at ho''
        cases ho''
        exact .inl (hdir k hk)
      rcases hcl2 j (hsuf i (by omega) hin j (by omega)) with h | h
      ·rw [hl] at h;simp at h
      ·exact e h.symm
    ·rintro rfl
     rw [mem_ready]
     refine ⟨?_,ops[i],by simp [hj],fun e he hb=>?_⟩
     ·have h1:=hl i
      rw [Array.getD_eq_getD_getElem?] at h1 ⊢
      rw [Array.getElem?_eq_getElem (by omega)] at h1 ⊢
      rw [show decide (i<i)=false by simp] at h1
      exact h1
     ·have hin:e.on∈direct ops[i]:=List.mem_filterMap.2 ⟨e,by simpa using he,by simp [hb]⟩
      have:=List.all_eq_true.1 hedge i (by simp;omega)
      rw [show ops.toList[i]?=some ops[i] by simp] at this
      have:=List.all_eq_true.1 this e.on hin
      rw [hl]
      simpa using this
   refine ⟨fun hr=>?_,fun i hi=>?_⟩
   ·have:=(hready j).2 rfl
    rw [hr] at this;cases this
   ·obtain rfl:=(hready i).1 hi
    have hget:ops[i]?=some ops[i]:=by simp [hj]
    rw [List.range'_succ] at h
    simp only [wpOpsIn,hget] at h
    have next:∀ a w,wpOpsIn (rnd C.r) 0 C.P ops Q (List.range' (i+1) k) a w→wpAnyIn (rnd C.r) 0 C.P .any ops Q fuel (listed.setIfInBounds i true) a w:=fun a w hh=>by
     refine ih (i+1) fuel _ a w (by omega) (by omega) (by simpa using hsz) (fun q=>?_) (by omega) hh
     by_cases e:q=i
     ·subst e
      rw [Array.getD_eq_getD_getElem?,Array.getElem?_setIfInBounds_self_of_lt (by omega)]
      simp
     ·rw [getD_set_ne false (Ne.symm e),hl,decide_eq_decide]
      omega
    unfold wpOpIn
    rw [hget]
    simp only
    split
    ·rename_i hw
     rw [if_pos hw] at h
     exact Oper.wpIn_mono next h
    ·rename_i hw
     rw [if_neg hw] at h
     exact ⟨h.1,next _ _ h.2⟩
theorem draw_any (hT:TabOk C.P T) (hΦ:CtrOk C.P Φ) (hd:∀ o∈ops.toList,dstOk o C.nt=true) {l:List SR} {s':AState} (hs:steps C.ft T Φ ops ops.toList s=some (l,s')) (hok:drawOk ops.toList l=true)
  (hc:∀ r∈l,∀ p∈r.cs,p) (hQ:∀ a' w',Rel C s' a' w'→Q .normal a' w'):∀ (fuel:Nat) (listed:Array Bool) (a:Act) (w:World),listed.size=ops.size→
   (∀ j o,ops[j]?=some o→listed.getD j false=true→∀ i∈direct o,listed.getD i false=true)→((List.range ops.size).filter fun j=>!listed.getD j false).length≤fuel→
   Rel C (stA l s fun j=>listed.getD j false) a w→wpAnyIn (rnd C.r) 0 C.P .any ops Q fuel listed a w:=by
 obtain ⟨hlen,hs',hstep⟩:=steps_spec _ _ hs
 simp only [drawOk,Bool.and_eq_true] at hok
 obtain ⟨hedge,hpair⟩:=hok
 have hedge':∀ j o,ops[j]?=some o→∀ i∈direct o,i<j:=by
  intro j o ho i hi
  have hj:j<ops.toList.length:=by
   have:=(Array.getElem?_eq_some_iff.1 ho).1;simpa using this
  have:=List.all_eq_true.1 hedge j (by simpa using hj)
  rw [show ops.toList[j]?=some o by simpa using ho] at this
  have:=List.all_eq_true.1 this i hi
  simpa using this
 have hpair':∀ i j x y,i<j→l[i]?=some x→l[j]?=some y→((closure ops.toList).getD j []).contains i=true∨x.apart y=true:=by
  intro i j x y hij hi hj
  have hjl:j<l.length:=(List.getElem?_eq_some_iff.1 hj).1
  have:=List.all_eq_true.1 hpair j (by simpa using hjl)
  have:=List.all_eq_true.1 this i (by simpa using hij)
  rw [hi,hj] at this
  simpa using this
 have hdone:∀ listed:Array Bool,listed.size=ops.size→Region.ready .any ops listed=[]→∀ j,j<ops.size→listed.getD j false=true:=by
  intro listed hsz hr j
  induction j using Nat.strongRecOn with
  | _ j ih=>
   intro hj
   cases hl:listed.getD j false with
   | true=>rfl
   | false=>
    exfalso
    have hmem:j∈Region.ready .any ops listed:=by
     rw [mem_ready]
     refine ⟨?_,ops[j],by simp [hj],fun e he hb=>?_⟩
     ·rw [Array.getD_eq_getD_getElem?] at hl ⊢
      rw [Array.getElem?_eq_getElem (by omega)] at hl ⊢
      exact hl
     ·have hin:e.on∈direct ops[j]:=List.mem_filterMap.2 ⟨e,by simpa using he,by simp [hb]⟩
      have hlt:=hedge' j ops[j] (by simp [hj]) e.on hin
      exact ih e.on hlt (by omega)
    rw [hr] at hmem
    cases hmem
 have hfin:∀ (listed:Array Bool) (a:Act) (w:World),listed.size=ops.size→Region.ready .any ops listed=[]→Rel C (stA l s fun j=>listed.getD j false) a w→Q .normal a w:=by
  intro listed a w hsz hr hrel
  have hall:=hdone listed hsz hr
  refine hQ a w ?_
  have:stA l s (fun j=>listed.getD j false)=s':=by
   rw [hs']
   unfold stA
   rw [List.filter_eq_self.2 fun p hp=>?_,enum_map]
   obtain ⟨_,h2⟩:=enum_mem hp
   have:=(List.getElem?_eq_some_iff.1 h2).1
   exact hall p.1 (by rw [Nat.sub_zero,hlen] at this;simpa using this)
  rw [←this]
  exact hrel
 intro fuel
 induction fuel with
 | zero=>
  intro listed a w hsz _ hfuel hrel
  have hr:Region.ready .any ops listed=[]:=by
   cases hr:Region.ready .any ops listed with
   | nil=>rfl
   | cons j js=>
    exfalso
    have hmem:j∈Region.ready .any ops listed:=by rw [hr];exact List.mem_cons_self
    rw [mem_ready] at hmem
    obtain ⟨h0,o,ho,_⟩:=hmem
    have hj:=(Array.getElem?_eq_some_iff.1 ho).1
    have:j∈(List.range ops.size).filter fun j=>!listed.getD j false:=by
     rw [List.mem_filter,List.mem_range]
     refine ⟨hj,?_⟩
     rw [Array.getD_eq_getD_getElem?] at h0 ⊢
     rw [Array.getElem?_eq_getElem (by omega)] at h0 ⊢
     simpa using h0
    have:=List.length_pos_of_mem this
    omega
  exact ⟨hr,hfin listed a w hsz hr hrel⟩
 | succ fuel ih=>
  intro listed a w hsz hdown hfuel hrel
  refine ⟨fun hr=>hfin listed a w hsz hr hrel,fun i hi=>?_⟩
  rw [mem_ready] at hi
  obtain ⟨h0,o,ho,hafter⟩:=hi
  have hin:i<ops.size:=(Array.getElem?_eq_some_iff.1 ho).1
  have h0':listed.getD i false=false:=by
   rw [Array.getD_eq_getD_getElem?] at h0 ⊢
   rw [Array.getElem?_eq_getElem (by omega)] at h0 ⊢
   exact h0
  have hmem:o∈ops.toList:=by
   have:=(Array.getElem?_eq_some_iff.1 ho).2
   rw [←this];simp
  have hdir:∀ k∈direct o,listed.getD k false=true:=by
   intro k hk
   obtain ⟨e,he,hek⟩:=List.mem_filterMap.1 hk
   split at hek
   ·rename_i hb
    cases hek
    exact hafter e (by simpa using he) hb
   ·cases hek
  obtain ⟨r,hr,hst⟩:=hstep i o (by simpa using ho)
  have hcl1:∀ j k,k∈(closure ops.toList).getD j []→listed.getD j false=true→listed.getD k false=true:=by
   refine closure_ok (p:=fun j=>listed.getD j false=true) ops.toList [] (fun j i hi=>by simp at hi) fun j o' ho' k hk hj=>?_
   exact hdown j o' (by simpa using ho') (by simpa using hj) k hk
  have hcl2:∀ k∈(closure ops.toList).getD i [],listed.getD k false=true∨k=i:=by
   intro k hk
   refine closure_ok (p:=fun j=>listed.getD j false=true∨j=i) ops.toList [] (fun j i hi=>by simp at hi) (fun j o' ho' k hk hj=>?_) i k hk (.inr rfl)
   have ho'':ops[j]?=some o':=by simpa using ho'
   rcases (by simpa using hj:listed.getD j false=true∨j=i) with hj | hj
   ·exact .inl (hdown j o' ho'' hj k hk)
   ·subst hj
    rw [ho] at ho''
    cases ho''
    exact .inl (hdir k hk)
  have hpre:∀ j x,j<i→l[j]?=some x→listed.getD j false=false→x.apart r=true:=by
   intro j x hj hx hl
   rcases hpair' j i x r hj hx hr with h | h
   ·rcases hcl2 j (by simpa using h) with h | h
    ·rw [hl] at h;cases h
    ·omega
   ·exact h
  have hpost:∀ j x,i<j→l[j]?=some x→listed.getD j false=true→r.apart x=true:=by
   intro j x hj hx hl
   rcases hpair' i j r x hj hr hx with h | h
   ·have:=hcl1 j i (by simpa using h) hl
    rw [h0'] at this;cases this
   ·exact h
  obtain ⟨k1,k2,k3⟩:=stA_step (s:=s) (f:=fun j=>listed.getD j false) hr h0' hpre hpost
  have hst':=stepS_congr hst k1 k2
  unfold wpOpIn
  rw [ho]
  refine stepS_ok hT hΦ (hd o hmem) hst' (hc r (List.mem_of_getElem? hr)) hrel fun a' w' hr'=>?_
  have hget:∀ j,(listed.setIfInBounds i true).getD j false=if j=i then true else listed.getD j false:=by
   intro j
   by_cases e:j=i
   ·subst e
    rw [if_pos rfl,Array.getD_eq_getD_getElem?,Array.getElem?_setIfInBounds_self_of_lt (by omega)]
    rfl
   ·rw [if_neg e,getD_set_ne false (Ne.symm e)]
  refine ih _ a' w' (by simpa using hsz) (fun j o' ho' hj k hk=>?_) ?_ ?_
  ·rw [hget] at hj ⊢
   split
   ·rfl
   ·split at hj
    ·rename_i e
     subst e
     rw [ho] at ho'
     cases ho'
     exact hdir k hk
    ·exact hdown j o' ho' hj k hk
  ·have hlt:((List.range ops.size).filter fun j=>!(listed.setIfInBounds i true).getD j false).length<((List.range ops.size).filter fun j=>!listed.getD j false).length:=by
    have e1:(List.range ops.size).filter (fun j=>!(listed.setIfInBounds i true).getD j false)=((List.range ops.size).filter fun j=>!listed.getD j false).filter fun j=>decide (j≠i):=by
     rw [List.filter_filter]
     apply List.filter_congr
     intro j _
     rw [hget]
     by_cases e:j=i<;>simp [e]
    rw [e1]
    have hmem':i∈(List.range ops.size).filter fun j=>!listed.getD j false:=by
     rw [List.mem_filter,List.mem_range]
     exact ⟨hin,by rw [h0'];rfl⟩
    exact List.length_filter_lt_length_iff_exists.2 ⟨i,hmem',by simp⟩
   omega
  ·have:stA l s (fun j=>(listed.setIfInBounds i true).getD j false)=r.upd (stA l s fun j=>listed.getD j false):=by
    rw [←k3]
    congr 1
    funext j
    exact hget j
   rw [this]
   exact hr'
def FL (n:Nat) (l b e x:Bool) (listed:Array Bool):Prop:=∀ i,listed.getD i false=(decide (i<n)||(l&&decide (i=n))||(b&&decide (i=n+1))||(e&&decide (i=n+2))||(x&&decide (i=n+3)))
def entA (a:Act) (dL dB d1 d2:Nat) (u vB vE vX:Value) (l b e x:Bool):Act:=
 let a1:=if l=true then a.put (some dL) u else a
 let a2:=if b=true then a1.put (some dB) vB else a1
 let a3:=if e=true then a2.put (some d1) vE else a2
 if x=true then a3.put (some d2) vX else a3
theorem put_size (a:Act) (d:Option Nat) (v:Value):(a.put d v).tmps.size=a.tmps.size:=by cases d<;>simp [Act.put]
theorem entA_size (a:Act) (dL dB d1 d2:Nat) (u vB vE vX:Value) (l b e x:Bool):(entA a dL dB d1 d2 u vB vE vX l b e x).tmps.size=a.tmps.size:=by
 unfold entA
 cases l<;>cases b<;>cases e<;>cases x<;>simp [put_size]
theorem entA_eval {a:Act} {dL dB d1 d2:Nat} {u vB vE vX:Value} {l b e x:Bool} {y:Operand} (h1:y≠.tmp dL) (h2:y≠.tmp dB) (h3:y≠.tmp d1) (h4:y≠.tmp d2):(entA a dL dB d1 d2 u vB vE vX l b e x).eval y=a.eval y:=by
 unfold entA
 cases l<;>cases b<;>cases e<;>cases x<;>simp [eval_put_ne,h1,h2,h3,h4]
theorem oper_value_of {o:Oper} {a:Act} {w w':World} {K:Act→World→Prop} {v:Value} (hd:∀ c,o.op≠.defer c) (h:(execOp a.eval o).run C.P w=.ok (.value v) w') (hk:o.wpIn (rnd C.r) 0 C.P a w K Q):K (a.put o.dst v) w':=by
 have:=hk.2
 rw [semAt_rnd hd,h] at this
 exact this
theorem draw_ent {n:Nat} (hsz5:ops.size=n+5) (hedge:edgesOk ops.toList=true) {oL oB oE oX oS:Oper} (gL:ops[n]?=some oL) (gB:ops[n+1]?=some oB) (gE:ops[n+2]?=some oE) (gX:ops[n+3]?=some oX) (gS:ops[n+4]?=some oS)
  (wL:oL.guard=none) (wB:oB.guard=none) (wE':oE.guard=none) (wX:oX.guard=none) (wS:oS.guard=none) (hdL:∀ c,oL.op≠.defer c) (hdB:∀ c,oB.op≠.defer c) (hdE:∀ c,oE.op≠.defer c) (hdX:∀ c,oX.op≠.defer c)
  (hpre:∀ q,q<5→∀ i,i<n→i∈(closure ops.toList).getD (n+q) []) (hB1:n∈(closure ops.toList).getD (n+1) []) (hX1:n+2∈(closure ops.toList).getD (n+3) []) (hS1:∀ q,q<4→n+q∈(closure ops.toList).getD (n+4) [])
  (hE2:∀ i∈direct oE,i<n) (hX2:∀ i∈direct oX,i<n∨i=n+2)
  {dL dB d1 d2:Nat} (tL:oL.dst=some dL) (tB:oB.dst=some dB) (tE:oE.dst=some d1) (tX:oX.dst=some d2) (_n1:dL≠dB) (n2:dL≠d1) (n3:dL≠d2) (n4:dB≠d1) (n5:dB≠d2)
  {a:Act} {w wE:World} {u vB vE vX:Value}
  (rL:∀ b e x,(execOp (entA a dL dB d1 d2 u vB vE vX false b e x).eval oL).run C.P (if e=true then wE else w)=.ok (.value u) (if e=true then wE else w))
  (rB:∀ e x,(execOp (entA a dL dB d1 d2 u vB vE vX true false e x).eval oB).run C.P (if e=true then wE else w)=.ok (.value vB) (if e=true then wE else w))
  (rE:∀ l b x,(execOp (entA a dL dB d1 d2 u vB vE vX l b false x).eval oE).run C.P w=.ok (.value vE) wE)
  (rX:∀ l b,(execOp (entA a dL dB d1 d2 u vB vE vX l b true false).eval oX).run C.P wE=.ok (.value vX) wE)
  (h:wpOpsIn (rnd C.r) 0 C.P ops Q (List.range' n 5) a w):∀ (fuel:Nat) (listed:Array Bool),listed.size=ops.size→(∀ i,listed.getD i false=decide (i<n))→5≤fuel→wpAnyIn (rnd C.r) 0 C.P .any ops Q fuel listed a w:=by
 let A:=entA a dL dB d1 d2 u vB vE vX
 let W:=fun e:Bool=>if e=true then wE else w
 have wt:∀ {o:Oper},o.guard=none→∀ a':Act,Region.wanted o (yielded ops a'.tmps)=true:=fun h a'=>by unfold Region.wanted;rw [h]
 have hS:oS.wpIn (rnd C.r) 0 C.P (A true true true true) wE (fun a' w'=>Q .normal a' w') Q:=by
  have e5:List.range' n 5=[n,n+1,n+2,n+3,n+4]:=rfl
  rw [e5] at h
  simp only [wpOpsIn,gL,gB,gE,gX,gS,wt wL,wt wB,wt wE',wt wX,wt wS,if_true] at h
  have h1:=oper_value_of (a:=A false false false false) (w:=w) hdL (rL false false false) h
  rw [tL] at h1
  have h2:=oper_value_of (a:=A true false false false) (w:=w) hdB (rB false false) h1
  rw [tB] at h2
  have h3:=oper_value_of (a:=A true true false false) (w:=w) hdE (rE true true false) h2
  rw [tE] at h3
  have h4:=oper_value_of (a:=A true true true false) (w:=wE) hdX (rX true true) h3
  rw [tX] at h4
  exact h4
 have hlisted:∀ {l b e x:Bool} {listed:Array Bool},FL n l b e x listed→(b=true→l=true)→(x=true→e=true)→∀ q o,ops[q]?=some o→listed.getD q false=true→∀ i∈direct o,listed.getD i false=true:=by
  intro l b e x listed hF hb hx q o ho hq i hi
  have hql:q<ops.size:=(Array.getElem?_eq_some_iff.1 ho).1
  have hiq:i<q:=by
   have:=List.all_eq_true.1 hedge q (by simp;omega)
   rw [show ops.toList[q]?=some o by simpa using ho] at this
   have:=List.all_eq_true.1 this i hi
   simpa using this
  rw [hF] at hq ⊢
  simp only [Bool.or_eq_true,Bool.and_eq_true,decide_eq_true_eq] at hq ⊢
  rcases hq with (((hq | ⟨h1,hq⟩) | ⟨h1,hq⟩) | ⟨h1,hq⟩) | ⟨h1,hq⟩
  ·exact .inl (.inl (.inl (.inl (by omega))))
  ·exact .inl (.inl (.inl (.inl (by omega))))
  ·rcases Nat.lt_or_ge i n with h | h
   ·exact .inl (.inl (.inl (.inl h)))
   ·exact .inl (.inl (.inl (.inr ⟨hb h1,by omega⟩)))
  ·subst hq
   rw [gE] at ho;cases ho
   exact .inl (.inl (.inl (.inl (hE2 i hi))))
  ·subst hq
   rw [gX] at ho;cases ho
   rcases hX2 i hi with h | h
   ·exact .inl (.inl (.inl (.inl h)))
   ·exact .inl (.inr ⟨hx h1,h⟩)
 have notl:∀ {listed:Array Bool} {i:Nat},listed.size=ops.size→i<ops.size→(listed[i]?.getD true=false↔listed.getD i false=false):=by
  intro listed i hsz hi
  rw [Array.getD_eq_getD_getElem?,Array.getElem?_eq_getElem (by omega)]
  rfl
 have rdy:∀ {l b e x:Bool} {listed:Array Bool},FL n l b e x listed→(b=true→l=true)→(x=true→e=true)→listed.size=ops.size→∀ i∈Region.ready .any ops listed,
   (i=n∧l=false)∨(i=n+1∧l=true∧b=false)∨(i=n+2∧e=false)∨(i=n+3∧e=true∧x=false)∨(i=n+4∧l=true∧b=true∧e=true∧x=true):=by
  intro l b e x listed hF hb hx hsz i hi
  have hdown:=hlisted hF hb hx
  rw [mem_ready] at hi
  obtain ⟨h0,o,ho,hafter⟩:=hi
  have hin:i<ops.size:=(Array.getElem?_eq_some_iff.1 ho).1
  have h0:listed.getD i false=false:=by
   rw [Array.getD_eq_getD_getElem?] at h0 ⊢
   rw [Array.getElem?_eq_getElem (by omega)] at h0 ⊢
   exact h0
  have hdir:∀ k∈direct o,listed.getD k false=true:=by
   intro k hk
   obtain ⟨e,he,hek⟩:=List.mem_filterMap.1 hk
   split at hek
   ·rename_i hb
    cases hek
    exact hafter e (by simpa using he) hb
   ·cases hek
  have hcl2:∀ k∈(closure ops.toList).getD i [],listed.getD k false=true∨k=i:=by
   intro k hk
   refine closure_ok (p:=fun j=>listed.getD j false=true∨j=i) ops.toList [] (fun j i hi=>by simp at hi) (fun j o' ho' k hk hj=>?_) i k hk (.inr rfl)
   have ho'':ops[j]?=some o':=by simpa using ho'
   rcases (by simpa using hj:listed.getD j false=true∨j=i) with hj | hj
   ·exact .inl (hdown j o' ho'' hj k hk)
   ·subst hj
    rw [ho] at ho''
    cases ho''
    exact .inl (hdir k hk)
  rw [hF] at h0
  simp only [Bool.or_eq_false_iff,Bool.and_eq_false_iff,decide_eq_false_iff_not] at h0
  obtain ⟨⟨⟨⟨k0,k1⟩,k2⟩,k3⟩,k4⟩:=h0
  have hge:n≤i:=by omega
  have cases5:i=n∨i=n+1∨i=n+2∨i=n+3∨i=n+4:=by omega
  have flag:∀ q,q<4→n+q∈(closure ops.toList).getD i []→n+q≠i→(if q=0 then l else if q=1 then b else if q=2 then e else x)=true:=by
   intro q hq hm hne
   rcases hcl2 _ hm with h | h
   ·rw [hF] at h
    simp only [Bool.or_eq_true,Bool.and_eq_true,decide_eq_true_eq] at h
    rcases h with (((h | ⟨h1,h⟩) | ⟨h1,h⟩) | ⟨h1,h⟩) | ⟨h1,h⟩
    ·omega
    ·have:q=0:=by omega
     subst this;exact h1
    ·have:q=1:=by omega
     subst this;exact h1
    ·have:q=2:=by omega
     subst this;exact h1
    ·have:q=3:=by omega
     subst this;exact h1
   ·exact absurd h hne
  rcases cases5 with rfl | rfl | rfl | rfl | rfl
  ·exact .inl ⟨rfl,by rcases k1 with h | h;exact h;exact absurd rfl h⟩
  ·exact .inr (.inl ⟨rfl,flag 0 (by omega) hB1 (by omega),by rcases k2 with h | h;exact h;exact absurd rfl h⟩)
  ·exact .inr (.inr (.inl ⟨rfl,by rcases k3 with h | h;exact h;exact absurd rfl h⟩))
  ·exact .inr (.inr (.inr (.inl ⟨rfl,flag 2 (by omega) hX1 (by omega),by rcases k4 with h | h;exact h;exact absurd rfl h⟩)))
  ·exact .inr (.inr (.inr (.inr ⟨rfl,flag 0 (by omega) (hS1 0 (by omega)) (by omega),flag 1 (by omega) (hS1 1 (by omega)) (by omega),flag 2 (by omega) (hS1 2 (by omega)) (by omega),flag 3 (by omega) (hS1 3 (by omega)) (by omega)⟩)))
 have some_ready:∀ {l b e x:Bool} {listed:Array Bool},FL n l b e x listed→(b=true→l=true)→(x=true→e=true)→listed.size=ops.size→Region.ready .any ops listed≠[]:=by
  intro l b e x listed hF hb hx hsz hnil
  have mk:∀ i o,ops[i]?=some o→listed.getD i false=false→(∀ k∈direct o,listed.getD k false=true)→False:=by
   intro i o ho h0 hd
   have hin:i<ops.size:=(Array.getElem?_eq_some_iff.1 ho).1
   have:i∈Region.ready .any ops listed:=by
    rw [mem_ready]
    refine ⟨?_,o,ho,fun e he hb=>hd e.on (List.mem_filterMap.2 ⟨e,by simpa using he,by simp [hb]⟩)⟩
    rw [Array.getD_eq_getD_getElem?] at h0 ⊢
    rw [Array.getElem?_eq_getElem (by omega)] at h0 ⊢
    exact h0
   rw [hnil] at this
   cases this
  have lt:∀ q o,ops[q]?=some o→∀ i∈direct o,i<q:=by
   intro q o ho i hi
   have hql:q<ops.size:=(Array.getElem?_eq_some_iff.1 ho).1
   have:=List.all_eq_true.1 hedge q (by simp;omega)
   rw [show ops.toList[q]?=some o by simpa using ho] at this
   have:=List.all_eq_true.1 this i hi
   simpa using this
  cases l with
  | false=>
   have hbf:b=false:=by cases b;rfl;exact absurd (hb rfl) (by simp)
   subst hbf
   exact mk n oL gL (by rw [hF];simp) fun k hk=>by rw [hF];have:=lt _ _ gL k hk;simp;omega
  | true=>
   cases b with
   | false=>exact mk (n+1) oB gB (by rw [hF];simp) fun k hk=>by rw [hF];have:=lt _ _ gB k hk;simp;omega
   | true=>
    cases e with
    | false=>
     have hxf:x=false:=by cases x;rfl;exact absurd (hx rfl) (by simp)
     subst hxf
     exact mk (n+2) oE gE (by rw [hF];simp) fun k hk=>by rw [hF];have:=hE2 k hk;simp;omega
    | true=>
     cases x with
     | false=>exact mk (n+3) oX gX (by rw [hF];simp) fun k hk=>by rw [hF];have:=hX2 k hk;simp;omega
     | true=>exact mk (n+4) oS gS (by rw [hF];simp) fun k hk=>by rw [hF];have:=lt _ _ gS k hk;simp;omega
 have nextF:∀ {listed:Array Bool} (i:Nat),listed.size=ops.size→i<ops.size→∀ q,(listed.setIfInBounds i true).getD q false=(listed.getD q false||decide (q=i)):=by
  intro listed i hsz hi q
  by_cases e:q=i
  ·subst e
   rw [Array.getD_eq_getD_getElem?,Array.getElem?_setIfInBounds_self_of_lt (by omega)]
   simp
  ·rw [getD_set_ne false (Ne.symm e)]
   simp [e]
 let G:=fun (l b e x:Bool)=>∀ (fuel:Nat) (listed:Array Bool),FL n l b e x listed→listed.size=ops.size→5≤fuel+(l.toNat+b.toNat+e.toNat+x.toNat)→wpAnyIn (rnd C.r) 0 C.P .any ops Q fuel listed (A l b e x) (W e)
 have step:∀ l b e x,(b=true→l=true)→(x=true→e=true)→(l=false→G true b e x)→(l=true→b=false→G l true e x)→(e=false→G l b true x)→(e=true→x=false→G l b e true)→G l b e x:=by
  intro l b e x hb hx s1 s2 s3 s4 fuel listed hF hsz hfu
  have hc4:l.toNat≤1∧b.toNat≤1∧e.toNat≤1∧x.toNat≤1:=⟨Bool.toNat_le l,Bool.toNat_le b,Bool.toNat_le e,Bool.toNat_le x⟩
  cases fuel with
  | zero=>omega
  | succ fuel=>
   refine ⟨fun hr=>absurd hr (some_ready hF hb hx hsz),fun i hi=>?_⟩
   rcases rdy hF hb hx hsz i hi with ⟨rfl,h1⟩ | ⟨rfl,h1,h2⟩ | ⟨rfl,h1⟩ | ⟨rfl,h1,h2⟩ | ⟨rfl,h1,h2,h3,h4⟩
   ·subst h1
    have hbf:b=false:=by cases b;rfl;exact absurd (hb rfl) (by simp)
    subst hbf
    unfold wpOpIn
    simp only [gL,wt wL,if_true]
    refine oper_value hdL (rL false e x) ?_
    rw [tL]
    have ea:(A false false e x).put (some dL) u=A true false e x:=by
     simp only [A,entA]
     cases e<;>cases x<;>simp [put_comm _ n2.symm,put_comm _ n3.symm]
    show wpAnyIn _ _ _ _ _ _ _ _ ((A false false e x).put (some dL) u) (W e)
    rw [ea]
    refine s1 rfl fuel _ (fun q=>?_) (by simpa using hsz) (by simp at hfu ⊢;omega)
    rw [nextF i hsz (by omega),hF]
    by_cases hq:q=i<;>simp [hq]
   ·subst h1;subst h2
    unfold wpOpIn
    simp only [gB,wt wB,if_true]
    refine oper_value hdB (rB e x) ?_
    rw [tB]
    have ea:(A true false e x).put (some dB) vB=A true true e x:=by
     simp only [A,entA]
     cases e<;>cases x<;>simp [put_comm _ n4.symm,put_comm _ n5.symm]
    show wpAnyIn _ _ _ _ _ _ _ _ ((A true false e x).put (some dB) vB) (W e)
    rw [ea]
    refine s2 rfl rfl fuel _ (fun q=>?_) (by simpa using hsz) (by simp at hfu ⊢;omega)
    rw [nextF (n+1) hsz (by omega),hF]
    by_cases hq:q=n+1<;>simp [hq]
   ·subst h1
    have hxf:x=false:=by cases x;rfl;exact absurd (hx rfl) (by simp)
    subst hxf
    unfold wpOpIn
    simp only [gE,wt wE',if_true]
    refine oper_value hdE (rE l b false) ?_
    rw [tE]
    show wpAnyIn _ _ _ _ _ _ _ _ (A l b true false) (W true)
    refine s3 rfl fuel _ (fun q=>?_) (by simpa using hsz) (by simp at hfu ⊢;omega)
    rw [nextF (n+2) hsz (by omega),hF]
    by_cases hq:q=n+2<;>simp [hq]
   ·subst h1;subst h2
    unfold wpOpIn
    simp only [gX,wt wX,if_true]
    refine oper_value hdX (rX l b) ?_
    rw [tX]
    show wpAnyIn _ _ _ _ _ _ _ _ (A l b true true) (W true)
    refine s4 rfl rfl fuel _ (fun q=>?_) (by simpa using hsz) (by simp at hfu ⊢;omega)
    rw [nextF (n+3) hsz (by omega),hF]
    by_cases hq:q=n+3<;>simp [hq]
   ·subst h1;subst h2;subst h3;subst h4
    unfold wpOpIn
    simp only [gS,wt wS,if_true]
    refine Oper.wpIn_mono (fun a' w' hq=>?_) hS
    have hall:∀ i,(listed.setIfInBounds (n+4) true).getD i false=decide (i<n+5):=fun i=>by
     rw [nextF (n+4) hsz (by omega),hF,Bool.eq_iff_iff]
     simp only [Bool.or_eq_true,Bool.and_eq_true,decide_eq_true_eq,true_and]
     omega
    have hr:∀ i,i ∉ Region.ready .any ops (listed.setIfInBounds (n+4) true):=fun i hi=>by
     rw [mem_ready] at hi
     obtain ⟨h0,o,ho,_⟩:=hi
     have hin:i<ops.size:=(Array.getElem?_eq_some_iff.1 ho).1
     have h1:=hall i
     have hs2:(listed.setIfInBounds (n+4) true).size=ops.size:=by simpa using hsz
     rw [Array.getD_eq_getD_getElem?] at h0 h1
     rw [Array.getElem?_eq_getElem (by omega)] at h0 h1
     have h0:(listed.setIfInBounds (n+4) true)[i]'(by omega)=false:=h0
     have h1:(listed.setIfInBounds (n+4) true)[i]'(by omega)=decide (i<n+5):=h1
     rw [h0] at h1
     have:i<n+5:=by omega
     simp [this] at h1
    have hr0:Region.ready .any ops (listed.setIfInBounds (n+4) true)=[]:=List.eq_nil_iff_forall_not_mem.2 hr
    cases fuel with
    | zero=>exact ⟨hr0,hq⟩
    | succ fuel=>exact ⟨fun _=>hq,fun i hi=>absurd hi (hr i)⟩
 have f:∀ {p:Prop},(true:Bool)=false→p:=fun h=>by cases h
 have f':∀ {p:Prop},(false:Bool)=true→p:=fun h=>by cases h
 have g1111:G true true true true:=step _ _ _ _ (fun _=>rfl) (fun _=>rfl) f (fun _=>f) f (fun _=>f)
 have g1110:G true true true false:=step _ _ _ _ (fun _=>rfl) (fun _=>rfl) f (fun _=>f) f (fun _ _=>g1111)
 have g1100:G true true false false:=step _ _ _ _ (fun _=>rfl) f' f (fun _=>f) (fun _=>g1110) f'
 have g1011:G true false true true:=step _ _ _ _ (fun _=>rfl) (fun _=>rfl) f (fun _ _=>g1111) f (fun _=>f)
 have g1010:G true false true false:=step _ _ _ _ (fun _=>rfl) (fun _=>rfl) f (fun _ _=>g1110) f (fun _ _=>g1011)
 have g1000:G true false false false:=step _ _ _ _ (fun _=>rfl) f' f (fun _ _=>g1100) (fun _=>g1010) f'
 have g0011:G false false true true:=step _ _ _ _ f' (fun _=>rfl) (fun _=>g1011) f' f (fun _=>f)
 have g0010:G false false true false:=step _ _ _ _ f' (fun _=>rfl) (fun _=>g1010) f' f (fun _ _=>g0011)
 have g0000:G false false false false:=step _ _ _ _ f' f' (fun _=>g1000) f' (fun _=>g0010) f'
 intro fuel listed hsz hl hfu
 exact g0000 fuel listed (fun i=>by rw [hl];simp) hsz (by simpa using hfu)
theorem draw_pre {n:Nat} (hn:n≤ops.size) (hT:TabOk C.P T) (hΦ:CtrOk C.P Φ) (hd:∀ o∈ops.toList,dstOk o C.nt=true) {l:List SR} {s':AState} (hs:steps C.ft T Φ ops (ops.toList.take n) s=some (l,s')) (hok:drawOk (ops.toList.take n) l=true) (hsuf:∀ j,n≤j→j<ops.size→∀ i,i<n→i∈(closure ops.toList).getD j [])
  (hc:∀ r∈l,∀ p∈r.cs,p) (hQ:∀ (fuel:Nat) (listed:Array Bool) a' w',listed.size=ops.size→(∀ i,listed.getD i false=decide (i<n))→ops.size - n≤fuel→Rel C s' a' w'→wpAnyIn (rnd C.r) 0 C.P .any ops Q fuel listed a' w'):∀ (fuel:Nat) (listed:Array Bool) (a:Act) (w:World),listed.size=ops.size→
   (∀ j o,ops[j]?=some o→listed.getD j false=true→∀ i∈direct o,listed.getD i false=true)→(∀ i,n≤i→listed.getD i false=false)→((List.range ops.size).filter fun j=>!listed.getD j false).length≤fuel→
   Rel C (stA l s fun j=>listed.getD j false) a w→wpAnyIn (rnd C.r) 0 C.P .any ops Q fuel listed a w:=by
 obtain ⟨hlen,hs',hstep⟩:=steps_spec _ _ hs
 have hLn:(ops.toList.take n).length=n:=by simp;omega
 have hL:∀ i,i<n→(ops.toList.take n)[i]?=ops[i]?:=fun i hi=>by
  rw [List.getElem?_take,if_pos hi,Array.getElem?_toList]
 simp only [drawOk,Bool.and_eq_true] at hok
 obtain ⟨hedge,hpair⟩:=hok
 have hedge':∀ j o,j<n→ops[j]?=some o→∀ i∈direct o,i<j:=by
  intro j o hjn ho i hi
  have:=List.all_eq_true.1 hedge j (by rw [hLn];simpa using hjn)
  rw [hL j hjn,ho] at this
  have:=List.all_eq_true.1 this i hi
  simpa using this
 have hpair':∀ i j x y,i<j→l[i]?=some x→l[j]?=some y→((closure (ops.toList.take n)).getD j []).contains i=true∨x.apart y=true:=by
  intro i j x y hij hi hj
  have hjl:j<l.length:=(List.getElem?_eq_some_iff.1 hj).1
  have:=List.all_eq_true.1 hpair j (by simpa using hjl)
  have:=List.all_eq_true.1 this i (by simpa using hij)
  rw [hi,hj] at this
  simpa using this
 intro fuel
 induction fuel with
 | zero=>
  intro listed a w hsz _ hno hfuel hrel
  have hall:∀ i,listed.getD i false=decide (i<n):=fun i=>by
   by_cases hi:i<n
   ·cases hl:listed.getD i false with
    | true=>simp [hi]
    | false=>
     exfalso
     have:i∈(List.range ops.size).filter fun j=>!listed.getD j false:=by
      rw [List.mem_filter,List.mem_range]
      exact ⟨by omega,by rw [hl];rfl⟩
     have:=List.length_pos_of_mem this
     omega
   ·rw [hno i (by omega)];simp [hi]
  refine hQ 0 listed a w hsz hall ?_ ?_
  ·by_cases hlt:n<ops.size
   ·have:n∈(List.range ops.size).filter fun j=>!listed.getD j false:=by
     rw [List.mem_filter,List.mem_range]
     exact ⟨hlt,by rw [hno n (Nat.le_refl _)];rfl⟩
    have:=List.length_pos_of_mem this
    omega
   ·omega
  ·have:stA l s (fun j=>listed.getD j false)=s':=by
    rw [hs']
    unfold stA
    rw [List.filter_eq_self.2 fun p hp=>?_,enum_map]
    obtain ⟨_,h2⟩:=enum_mem hp
    have:=(List.getElem?_eq_some_iff.1 h2).1
    show listed.getD p.1 false=true
    rw [hall]
    have:p.1<n:=by rw [Nat.sub_zero,hlen,hLn] at this;exact this
    simpa using this
   rw [←this]
   exact hrel
 | succ fuel ih=>
  intro listed a w hsz hdown hno hfuel hrel
  by_cases hdone:∀ i,i<n→listed.getD i false=true
  ·have hall:∀ i,listed.getD i false=decide (i<n):=fun i=>by
    by_cases hi:i<n
    ·rw [hdone i hi];simp [hi]
    ·rw [hno i (by omega)];simp [hi]
   refine hQ (fuel+1) listed a w hsz hall ?_ ?_
   ·have h1:(List.range' n (ops.size - n)).length≤((List.range ops.size).filter fun j=>!listed.getD j false).length:=by
     have e:(List.range ops.size).filter (fun j=>!listed.getD j false)=List.range' n (ops.size - n):=by
      have h2:(List.range ops.size).filter (fun j=>!listed.getD j false)=(List.range ops.size).filter fun j=>decide (n≤j):=List.filter_congr fun j _=>by
       rw [hall]
       by_cases h:j<n
       ·have:¬n≤j:=by omega
        simp [h,this]
       ·have:n≤j:=by omega
        simp [h,this]
      rw [h2]
      have h3:List.range ops.size=List.range n++List.range' n (ops.size - n):=by
       rw [List.range_eq_range',List.range_eq_range']
       have:=(List.range'_append (s:=0) (m:=n) (n:=ops.size - n) (step:=1))
       rw [Nat.one_mul,Nat.zero_add] at this
       rw [this]
       congr 1
       omega
      rw [h3,List.filter_append,List.filter_eq_nil_iff.2 fun j hj=>by have:=List.mem_range.1 hj;simp;omega,List.filter_eq_self.2 fun j hj=>by have:=List.mem_range'_1.1 hj;simp;omega]
      rfl
     rw [e]
     exact Nat.le_refl _
    rw [List.length_range'] at h1
    omega
   ·have:stA l s (fun j=>listed.getD j false)=s':=by
     rw [hs']
     unfold stA
     rw [List.filter_eq_self.2 fun p hp=>?_,enum_map]
     obtain ⟨_,h2⟩:=enum_mem hp
     have:=(List.getElem?_eq_some_iff.1 h2).1
     show listed.getD p.1 false=true
     rw [hall]
     have:p.1<n:=by rw [Nat.sub_zero,hlen,hLn] at this;exact this
     simpa using this
    rw [←this]
    exact hrel
  ·refine ⟨fun hr=>absurd ?_ hdone,fun i hi=>?_⟩
   ·intro j
    induction j using Nat.strongRecOn with
    | _ j ihj=>
     intro hj
     cases hl:listed.getD j false with
     | true=>rfl
     | false=>
      exfalso
      have hmem:j∈Region.ready .any ops listed:=by
       rw [mem_ready]
       refine ⟨?_,ops[j],by simp,fun e he hb=>?_⟩
       ·rw [Array.getD_eq_getD_getElem?] at hl ⊢
        rw [Array.getElem?_eq_getElem (by omega)] at hl ⊢
        exact hl
       ·have hin:e.on∈direct ops[j]:=List.mem_filterMap.2 ⟨e,by simpa using he,by simp [hb]⟩
        have hlt:=hedge' j ops[j] hj (by simp) e.on hin
        exact ihj e.on hlt (by omega)
      rw [hr] at hmem
      cases hmem
   ·rw [mem_ready] at hi
    obtain ⟨h0,o,ho,hafter⟩:=hi
    have hin:i<ops.size:=(Array.getElem?_eq_some_iff.1 ho).1
    have h0':listed.getD i false=false:=by
     rw [Array.getD_eq_getD_getElem?] at h0 ⊢
     rw [Array.getElem?_eq_getElem (by omega)] at h0 ⊢
     exact h0
    have hmem:o∈ops.toList:=by
     have:=(Array.getElem?_eq_some_iff.1 ho).2
     rw [←this];simp
    have hdir:∀ k∈direct o,listed.getD k false=true:=by
     intro k hk
     obtain ⟨e,he,hek⟩:=List.mem_filterMap.1 hk
     split at hek
     ·rename_i hb
      cases hek
      exact hafter e (by simpa using he) hb
     ·cases hek
    have hi:i<n:=by
     by_cases hi:i<n
     ·exact hi
     ·exfalso
      have hcl2:∀ k∈(closure ops.toList).getD i [],listed.getD k false=true∨k=i:=by
       intro k hk
       refine closure_ok (p:=fun j=>listed.getD j false=true∨j=i) ops.toList [] (fun j i hi=>by simp at hi) (fun j o' ho' k hk hj=>?_) i k hk (.inr rfl)
       have ho'':ops[j]?=some o':=by simpa using ho'
       rcases (by simpa using hj:listed.getD j false=true∨j=i) with hj | hj
       ·exact .inl (hdown j o' ho'' hj k hk)
       ·subst hj
        rw [ho] at ho''
        cases ho''
        exact .inl (hdir k hk)
      refine hdone fun q hq=>?_
      rcases hcl2 q (hsuf i (by omega) hin q hq) with h | h
      ·exact h
      ·omega
    obtain ⟨r,hr,hst⟩:=hstep i o (by rw [hL i hi];exact ho)
    have hcl1:∀ j k,k∈(closure (ops.toList.take n)).getD j []→listed.getD j false=true→listed.getD k false=true:=by
     refine closure_ok (p:=fun j=>listed.getD j false=true) (ops.toList.take n) [] (fun j i hi=>by simp at hi) fun j o' ho' k hk hj=>?_
     have hjn:j<n:=by have:=(List.getElem?_eq_some_iff.1 ho').1;rw [hLn] at this;exact this
     exact hdown j o' (by rw [←hL j hjn];exact ho') (by simpa using hj) k hk
    have hcl2:∀ k∈(closure (ops.toList.take n)).getD i [],listed.getD k false=true∨k=i:=by
     intro k hk
     refine closure_ok (p:=fun j=>listed.getD j false=true∨j=i) (ops.toList.take n) [] (fun j i hi=>by simp at hi) (fun j o' ho' k hk hj=>?_) i k hk (.inr rfl)
     have hjn:j<n:=by have:=(List.getElem?_eq_some_iff.1 ho').1;rw [hLn] at this;exact this
     have ho'':ops[j]?=some o':=by rw [←hL j hjn];exact ho'
     rcases (by simpa using hj:listed.getD j false=true∨j=i) with hj | hj
     ·exact .inl (hdown j o' ho'' hj k hk)
     ·subst hj
      rw [ho] at ho''
      cases ho''
      exact .inl (hdir k hk)
    have hpre:∀ j x,j<i→l[j]?=some x→listed.getD j false=false→x.apart r=true:=by
     intro j x hj hx hl
     rcases hpair' j i x r hj hx hr with h | h
     ·rcases hcl2 j (by simpa using h) with h | h
      ·rw [hl] at h;cases h
      ·omega
     ·exact h
    have hpost:∀ j x,i<j→l[j]?=some x→listed.getD j false=true→r.apart x=true:=by
     intro j x hj hx hl
     rcases hpair' i j r x hj hr hx with h | h
     ·have:=hcl1 j i (by simpa using h) hl
      rw [h0'] at this;cases this
     ·exact h
    obtain ⟨k1,k2,k3⟩:=stA_step (s:=s) (f:=fun j=>listed.getD j false) hr h0' hpre hpost
    have hst':=stepS_congr hst k1 k2
    unfold wpOpIn
    rw [ho]
    refine stepS_ok hT hΦ (hd o hmem) hst' (hc r (List.mem_of_getElem? hr)) hrel fun a' w' hr'=>?_
    have hget:∀ j,(listed.setIfInBounds i true).getD j false=if j=i then true else listed.getD j false:=by
     intro j
     by_cases e:j=i
     ·subst e
      rw [if_pos rfl,Array.getD_eq_getD_getElem?,Array.getElem?_setIfInBounds_self_of_lt (by omega)]
      rfl
     ·rw [if_neg e,getD_set_ne false (Ne.symm e)]
    refine ih _ a' w' (by simpa using hsz) (fun j o' ho' hj k hk=>?_) (fun q hq=>by rw [hget,if_neg (by omega)];exact hno q hq) ?_ ?_
    ·rw [hget] at hj ⊢
     split
     ·rfl
     ·split at hj
      ·rename_i e
       subst e
       rw [ho] at ho'
       cases ho'
       exact hdir k hk
      ·exact hdown j o' ho' hj k hk
    ·have hlt:((List.range ops.size).filter fun j=>!(listed.setIfInBounds i true).getD j false).length<((List.range ops.size).filter fun j=>!listed.getD j false).length:=by
      have e1:(List.range ops.size).filter (fun j=>!(listed.setIfInBounds i true).getD j false)=((List.range ops.size).filter fun j=>!listed.getD j false).filter fun j=>decide (j≠i):=by
       rw [List.filter_filter]
       apply List.filter_congr
       intro j _
       rw [hget]
       by_cases e:j=i<;>simp [e]
      rw [e1]
      have hmem':i∈(List.range ops.size).filter fun j=>!listed.getD j false:=by
       rw [List.mem_filter,List.mem_range]
       exact ⟨hin,by rw [h0'];rfl⟩
      exact List.length_filter_lt_length_iff_exists.2 ⟨i,hmem',by simp⟩
     omega
    ·have:stA l s (fun j=>(listed.setIfInBounds i true).getD j false)=r.upd (stA l s fun j=>listed.getD j false):=by
      rw [←k3]
      congr 1
      funext j
      exact hget j
     rw [this]
     exact hr'
theorem rq_ret_of {β:Type} {b:Bool} {p:Prop} {m:M β} {O:β→Prop} (h:M.Ret (rq b p m) O):M.Ret m O:=by
 cases b with
 | true=>exact h
 | false=>exact (M.ret_req.1 h).2
theorem entOps_ok {oL oB oE oX oS:Oper} (h:entOps oL oB oE oX oS=true):∃ ty m x tyB tyB' k c dL dB d1 d2 oU y,oL.op=.lookup ty m x false∧oB.op=.binOp .add tyB (.tmp dL) (.const (.int k c)) tyB'∧oE.op=.mapEntry ty m x∧oX.op=.extract (.tmp d1) 1∧
  oU.op=.mapUpdate ty m x y∧fuse3 oE oX oS=some (oU,d1,d2)∧oL.dst=some dL∧oB.dst=some dB∧oE.dst=some d1∧oX.dst=some d2∧InR k c∧(dL≠dB∧dL≠d1∧dL≠d2∧dB≠d1∧dB≠d2∧d1≠d2)∧
  (m≠.tmp dL∧m≠.tmp dB∧m≠.tmp d1∧m≠.tmp d2)∧(x≠.tmp dL∧x≠.tmp dB∧x≠.tmp d1∧x≠.tmp d2)∧(∃ tm,m=.tmp tm)∧(∃ tx,x=.tmp tx)∧oL.guard=none∧oB.guard=none∧oE.guard=none∧oX.guard=none∧oS.guard=none:=by
 unfold entOps at h
 split at h
 ·rename_i ty m x tyB t k c tyB' ty' m' x' hL hB hE
  split at h
  ·rename_i dL dB oU d1 d2 tL tB hfu
   simp only [decide_eq_true_eq] at h
   obtain ⟨rfl,rfl,hin,e1,e2,n1,n2,n3,n4,n5,n6,s1,s2,a1,a2,a3,a4,b1,b2,b3,b4,q1,q2⟩:=h
   obtain ⟨tyU,mU,xU,yU,f1,f2,f3,f4,f5,f6,f7,f8,f9,f10,f11,f12,g1,g2,g3⟩:=fuse3_ok hfu
   obtain ⟨tm,htm⟩:=Option.isSome_iff_exists.1 s1
   obtain ⟨tx,htx⟩:=Option.isSome_iff_exists.1 s2
   have em:=tmp?_some htm
   have ex:=tmp?_some htx
   have em':=tmp?_some (e1.trans htm)
   have ex':=tmp?_some (e2.trans htx)
   rw [f1] at hE
   simp only [Op.mapEntry.injEq] at hE
   obtain ⟨rfl,rfl,rfl⟩:=hE
   subst em;subst ex
   subst em';subst ex'
   refine ⟨_,_,_,_,_,_,_,_,_,_,_,oU,_,hL,hB,f1,f3,f7,hfu,tL,tB,f2,f4,hin,⟨n1,n2,n3,n4,n5,n6⟩,?_,?_,⟨_,rfl⟩,⟨_,rfl⟩,Option.isNone_iff_eq_none.1 q1,Option.isNone_iff_eq_none.1 q2,g1,g2,g3⟩
   ·simp only [tmp?,ne_eq,Option.some.injEq] at a1 a2 a3 a4
    exact ⟨fun e=>a1 (by cases e;rfl),fun e=>a2 (by cases e;rfl),fun e=>a3 (by cases e;rfl),fun e=>a4 (by cases e;rfl)⟩
   ·simp only [tmp?,ne_eq,Option.some.injEq] at b1 b2 b3 b4
    exact ⟨fun e=>b1 (by cases e;rfl),fun e=>b2 (by cases e;rfl),fun e=>b3 (by cases e;rfl),fun e=>b4 (by cases e;rfl)⟩
  ·cases h
 ·cases h
theorem draw_ent_ok {β:Type} {n:Nat} (hent:entEnd ops.toList=true) (hn:n=ops.size - 5) (hT:TabOk C.P T) (hΦ:CtrOk C.P Φ) (hΨ:PsiOk C.P C.ft Ψ) (hd:∀ o∈ops.toList,dstOk o C.nt=true) {k:AState→M β} {O:β→Prop}
  (hk:∀ s' a' w',Rel C s' a' w'→M.Ret (k s') O→Q .normal a' w') (hm:M.Ret (regI C.ft T Φ Ψ ops (ops.toList.drop n) [] s k) O) :
  (n≤ops.size∧∀ j,n≤j→j<ops.size→∀ i,i<n→i∈(closure ops.toList).getD j [])∧∀ (a:Act) (w:World),Rel C s a w→∀ (fuel:Nat) (listed:Array Bool),listed.size=ops.size→(∀ i,listed.getD i false=decide (i<n))→ops.size - n≤fuel→wpAnyIn (rnd C.r) 0 C.P .any ops Q fuel listed a w:=by
 unfold entEnd at hent
 rw [show ops.toList.length - 5=n by simp [hn]] at hent
 split at hent
 ·rename_i oL oB oE oX oS hdrop
  simp only [Bool.and_eq_true,List.all_eq_true,List.mem_range,List.contains_eq_mem,decide_eq_true_eq,Bool.or_eq_true] at hent
  obtain ⟨hops,⟨⟨⟨⟨⟨hedge,hpre⟩,hB1⟩,hX1⟩,hS1⟩,hE2⟩,hX2⟩:=hent
  have hsz5:ops.size=n+5:=by
   have:=congrArg List.length hdrop
   simp at this
   omega
  have gat:∀ q (o:Oper),[oL,oB,oE,oX,oS][q]?=some o→ops[n+q]?=some o:=fun q o h=>by
   rw [←hdrop,List.getElem?_drop,Array.getElem?_toList] at h
   exact h
  have gL:=gat 0 oL rfl
  have gB:=gat 1 oB rfl
  have gE:=gat 2 oE rfl
  have gX:=gat 3 oX rfl
  have gS:=gat 4 oS rfl
  have mem:∀ {q o},ops[n+q]?=some o→o∈ops.toList:=fun h=>by
   rw [←Array.getElem?_toList] at h
   exact List.mem_of_getElem? h
  obtain ⟨ty,m,x,tyB,tyB',kc,c,dL,dB,d1,d2,oU,y,hL,hB,hE,hX,hU,hfz,tL,tB,tE,tX,hin,⟨n1,n2,n3,n4,n5,n6⟩,⟨m1,m2,m3,m4⟩,⟨x1,x2,x3,x4⟩,⟨tm,em⟩,⟨tx,ex⟩,wL,wB,wE',wX,wS⟩:=entOps_ok hops
  have hdL:∀ c,oL.op≠.defer c:=by rw [hL];intro c hc;cases hc
  have hdB:∀ c,oB.op≠.defer c:=by rw [hB];intro c hc;cases hc
  have hdE:∀ c,oE.op≠.defer c:=by rw [hE];intro c hc;cases hc
  have hdX:∀ c,oX.op≠.defer c:=by rw [hX];intro c hc;cases hc
  refine ⟨⟨by omega,fun j h1 h2 i hi=>by have:=hpre (j - n) (by omega) i hi;rwa [show n+(j - n)=j by omega] at this⟩,fun a w hr fuel listed hsz hl hfu=>?_⟩
  have htext:=regI_ok (Q:=Q) hT hΦ hΨ hd hk _ n [] s a w rfl (fun p hp=>by cases hp) hr hm
  rw [show (ops.toList.drop n).length=5 by rw [hdrop];rfl] at htext
  rw [hdrop] at hm
  obtain ⟨κ,F,hrk⟩:=hr
  have gd:∀ {o:Oper},o.guard=none→∀ s:AState,guardV s.slot ops o.guard=some none:=fun h s=>by rw [h];rfl
  have nof:∀ {o:Oper} {os},(∀ ty m x,o.op≠.mapEntry ty m x)→fuseMap o os=none:=fun {o os} h=>by
   unfold fuseMap
   split
   ·unfold fuse3
    split
    ·rename_i e;exact absurd e (h _ _ _)
    ·rfl
   ·rfl
  have hLn:fuseMap oL [oB,oE,oX,oS]=none:=nof (by rw [hL];intro _ _ _ e;cases e)
  unfold regI at hm
  rw [hLn] at hm
  simp only [gd wL] at hm
  split at hm
  ·rename_i resL hresL
   rw [rq_ret fun hb=>(obM_ok (s:=s) (fun p hp=>by cases hp) (gk:=none) (fun k hk=>by cases hk) hb).run s.blk resL hresL,rq_ret fun hb=>(opV_c hb).run s.blk resL hresL] at hm
   obtain ⟨obL,cL,hm⟩:=hm
   have hokL:=opV_ok hT hΦ (hd oL (mem gL)) hresL
   have hresL':=hresL
   simp only [opV,hL,lookOpV] at hresL'
   have hLf:(use (opAV C.ft s.slot m)).1∧(use (opAV C.ft s.slot x)).1∧resL.wb=[]∧∃ v u,resL.dv=.val v u:=by
    split at hresL'
    ·rename_i kk vv hkv
     split at hresL'
     ·simp only [Rd.run_bindO,Option.bind_eq_some_iff,okRes,Rd.run_ret,Option.some.injEq] at hresL'
      obtain ⟨es,hes,⟨y,l⟩,hy,rfl⟩:=hresL'
      exact ⟨obL.1,obL.2,rfl,_,_,rfl⟩
     ·cases hresL'
    ·cases hresL'
   obtain ⟨hobm,hobx,hwbL,vL,uL,hdvL⟩:=hLf
   have hBn:fuseMap oB [oE,oX,oS]=none:=nof (by rw [hB];intro _ _ _ e;cases e)
   unfold regI at hm
   rw [hBn] at hm
   simp only [gd wB] at hm
   split at hm
   ·rename_i resB hresB
    have hm:=rq_ret_of (rq_ret_of hm)
    have hresB':=hresB
    have e1:(s.app oL.dst resL).slot dL=.val vL uL:=by rw [tL,AState.app,AState.set_slot',hdvL]
    have hcv:constAV (.int kc c)=.val (.int kc) c:=by simp [constAV,hin]
    have hBf:∃ a1,vL=.int kc∧resB.wb=[]∧a1=uL:=by
     simp only [opV,hB,opAV,e1,hcv,use,AV.int?,AV.str?] at hresB'
     split at hresB'
     ·rename_i k1 a1 k2 b1 h1 h2
      split at h1
      ·rename_i k3 x3 h3
       cases h2
       cases h3
       cases h1
       split at hresB'
       ·rename_i hkk
        simp only [intOp,okRes,Rd.run_ret,Option.some.injEq] at hresB'
        subst hresB'
        exact ⟨_,by rw [hkk],rfl,rfl⟩
       ·cases hresB'
      ·cases h1
     ·rename_i hno
      exfalso
      split at hresB'
      ·rename_i h1 h2
       cases h2
      ·simp only [Rd.run_bindO,Option.bind_eq_some_iff] at hresB'
       obtain ⟨⟨c',v'⟩,h1,h2⟩:=hresB'
       simp only [eqOp,Rd.run_bindO,Option.bind_eq_some_iff,Rd.run_ret] at h1
       obtain ⟨_,_,h3⟩:=h1
       cases h3
    obtain ⟨uL',rfl,hwbB,rfl⟩:=hBf
    have hbl:((s.app oL.dst resL).app oB.dst resB).blk=s.blk:=by
     simp only [AState.app,hwbL,hwbB,AState.setBs,tL,tB,AState.set]
    have keep:∀ {t:Nat},t≠dL→t≠dB→((s.app oL.dst resL).app oB.dst resB).slot t=s.slot t:=fun {t} h1 h2=>by
     simp only [AState.app,hwbL,hwbB,AState.setBs]
     rw [AState.set_slot (by rw [tB];intro e;cases e;exact h2 rfl),AState.set_slot (by rw [tL];intro e;cases e;exact h1 rfl)]
    unfold regI at hm
    rw [show fuseMap oE [oX,oS]=some (oU,d1,d2) from hfz] at hm
    simp only at hm
    split at hm
    ·rename_i resU hresU
     obtain ⟨u,nb,wE,hfacts⟩:=ent_facts (s:=s) hT hL hE hU hbl (by rw [em];exact keep (fun e=>m1 (by rw [em,e])) (fun e=>m2 (by rw [em,e]))) (by rw [ex];exact keep (fun e=>x1 (by rw [ex,e])) (fun e=>x2 (by rw [ex,e]))) hresU hrk hobm hobx
     have hrunL:=(hfacts a rfl rfl).1
     have hrel1:=oper_value_of (K:=fun a' w'=>Rel C (s.app oL.dst resL) a' w') (Q:=Q) hdL hrunL (hokL a w κ F Q hrk obL cL)
     have hdLn:dL<a.tmps.size:=by
      have:=hd oL (mem gL)
      simp only [dstOk,Bool.and_eq_true] at this
      have:=this.1
      rw [tL] at this
      have h1:=hrk.tsz
      rw [h1]
      simpa using this
     have hd1n:d1<a.tmps.size:=by
      have:=hd oE (mem gE)
      simp only [dstOk,Bool.and_eq_true] at this
      have:=this.1
      rw [tE] at this
      have h1:=hrk.tsz
      rw [h1]
      simpa using this
     have hu:u=.int kc uL':=by
      obtain ⟨κ1,F1,hr1⟩:=hrel1
      have h1:=hr1.slots dL
      rw [e1,tL] at h1
      have h2:(a.put (some dL) u).tmps.getD dL Go.undef=u:=eval_put_eq hdLn
      rw [h2] at h1
      exact (RV_int.1 h1).1
     subst hu
     let vB:Value:=.int kc (kc.wrap (uL'+c))
     have exB:∀ (a':Act) (w':World),a'.eval (.tmp dL)=.int kc uL'→(execOp a'.eval oB).run C.P w'=.ok (.value vB) w':=fun a' w' h=>by
      have h2:a'.eval (.const (.int kc c))=.int kc c:=rfl
      have h3:(Go.binOp .add tyB (.int kc uL') (.int kc c)).run C.P w'=.ok vB w':=by simp [Go.binOp,Op.intArith,vB]
      simp only [execOp,hB,h,h2,Sem.run_bind,eqGuard_int,Result.andThen_ok,h3,Sem.run_pure]
     have exX:∀ (a':Act) (w':World),a'.eval (.tmp d1)=.tuple #[.int kc uL',goInt nb]→(execOp a'.eval oX).run C.P w'=.ok (.value (goInt nb)) w':=fun a' w' h=>by
      simp [execOp,hX,h,Instr.extract]
     have evm:∀ l b e x',(entA a dL dB d1 d2 (.int kc uL') vB (.tuple #[.int kc uL',goInt nb]) (goInt nb) l b e x').eval m=a.eval m:=fun l b e x'=>entA_eval m1 m2 m3 m4
     have evx:∀ l b e x',(entA a dL dB d1 d2 (.int kc uL') vB (.tuple #[.int kc uL',goInt nb]) (goInt nb) l b e x').eval x=a.eval x:=fun l b e x'=>entA_eval x1 x2 x3 x4
     refine draw_ent (wE:=wE) (u:=.int kc uL') (vB:=vB) (vE:=.tuple #[.int kc uL',goInt nb]) (vX:=goInt nb) hsz5 hedge gL gB gE gX gS wL wB wE' wX wS hdL hdB hdE hdX hpre hB1 hX1 hS1 hE2 hX2 tL tB tE tX n1 n2 n3 n4 n5 ?_ ?_ ?_ ?_ htext fuel listed hsz hl (by omega)
     ·intro b e x'
      have:=hfacts _ (evm false b e x') (evx false b e x')
      cases e
      ·exact this.1
      ·exact this.2.1
     ·intro e x'
      refine exB _ _ ?_
      have h1:(entA a dL dB d1 d2 (.int kc uL') vB (.tuple #[.int kc uL',goInt nb]) (goInt nb) true false e x').eval (.tmp dL)=(a.put (some dL) (.int kc uL')).eval (.tmp dL):=by
       have q1:Operand.tmp dL≠.tmp d1:=fun h=>n2 (by cases h;rfl)
       have q2:Operand.tmp dL≠.tmp d2:=fun h=>n3 (by cases h;rfl)
       unfold entA
       cases e<;>cases x'<;>simp [eval_put_ne,q1,q2]
      rw [h1]
      exact eval_put_eq hdLn
     ·intro l b x'
      exact (hfacts _ (evm l b false x') (evx l b false x')).2.2
     ·intro l b
      refine exX _ _ ?_
      have h1:entA a dL dB d1 d2 (.int kc uL') vB (.tuple #[.int kc uL',goInt nb]) (goInt nb) l b true false=(entA a dL dB d1 d2 (.int kc uL') vB (.tuple #[.int kc uL',goInt nb]) (goInt nb) l b false false).put (some d1) (.tuple #[.int kc uL',goInt nb]):=rfl
      rw [h1]
      exact eval_put_eq (by rw [entA_size];exact hd1n)
    ·exact hm.1.elim
   ·rename_i hnone
    exfalso
    have:progI C.ft T Φ Ψ (s.app oL.dst resL) oB=none:=by
     have hcv:constAV (.int kc c)=.val (.int kc) c:=by simp [constAV,hin]
     simp only [progI,hB,nilEqI,opAV,hcv]
     split<;>simp_all
    rw [this] at hm
    exact hm.1
  ·exfalso
   have:progI C.ft T Φ Ψ s oL=none:=by simp only [progI,hL]
   rw [this] at hm
   exact hm.1
 ·cases hent
theorem stepE_ok {β:Type} {L:List (AState→M β)} (hL:L≠[]) {o:Oper} (hT:TabOk C.P T) (hΦ:CtrOk C.P Φ) (hΨ:PsiOk C.P C.ft Ψ) (hdo:dstOk o C.nt=true) {O:β→Prop} {s:AState} {a:Act} {w:World} (hr:Rel C s a w)
  (hm:∀ k∈L,M.Ret (stepE C.ft T Φ Ψ ops o s k) O) {K:Act→World→Prop} (hK:∀ s' a' w',Rel C s' a' w'→(∀ k∈L,M.Ret (k s') O)→K a' w'):o.guard=none∧o.wpIn (rnd C.r) 0 C.P a w K Q:=by
 obtain ⟨k0,hk0⟩:=List.exists_mem_of_ne_nil L hL
 have hdst:∀ i,o.dst=some i→i<C.nt:=fun i hi=>by
  have:=hdo
  simp only [dstOk,Bool.and_eq_true] at this
  have:=this.1
  rw [hi] at this
  simpa using this
 unfold stepE at hm
 split at hm
 ·exact (hm k0 hk0).1.elim
 ·rename_i hg
  refine ⟨hg,?_⟩
  split at hm
  ·rename_i res hres
   obtain ⟨κ,F,hrk⟩:=hr
   have hm:∀ k∈L,res.ob∧res.c∧M.Ret (k (s.app o.dst res)) O:=fun k hk=>by
    have:=hm k hk
    rw [rq_ret fun hb=>(obM_ok (ops:=ops) (tg:=[]) (s:=s) (fun p hp=>by cases hp) (gk:=none) (fun k hk=>by cases hk) hb).run s.blk res hres,rq_ret fun hb=>(opV_c hb).run s.blk res hres] at this
    exact this
   exact Oper.wpIn_mono (fun a' w' hr'=>hK _ a' w' hr' fun k hk=>(hm k hk).2.2) (opV_ok hT hΦ hdo hres a w κ F Q hrk (hm k0 hk0).1 (hm k0 hk0).2.1)
  ·split at hm
   ·rename_i pr hpr
    obtain ⟨p1,p2,p3⟩:=progI_ok hT hΦ hΨ hdst hpr
    have hm:∀ k∈L,pr.ob∧M.Ret pr.m fun y=>M.Ret (k (pr.st y)) O:=fun k hk=>by
     have:=hm k hk
     rw [rq_ret fun hb=>p3 (obF_ok hb),M.ret_bind] at this
     exact this
    refine p1 a w Q _ hr (hm k0 hk0).1 ⟨(hm k0 hk0).2.1,fun y hy a' w' hr'=>hK _ a' w' hr' fun k hk=>(hm k hk).2.2 y hy⟩
   ·exact (hm k0 hk0).1.elim
theorem mem_readyL {ops:List Oper} {done:List Nat} {i:Nat}:i∈readyL ops done↔i<ops.length∧i ∉ done∧∃ o,ops[i]?=some o∧∀ j∈direct o,j∈done:=by
 unfold readyL
 rw [List.mem_filter,List.mem_range,Bool.and_eq_true,Bool.not_eq_true',List.contains_eq_mem,decide_eq_false_iff_not]
 refine and_congr_right fun h=>and_congr_right fun _=>?_
 rw [List.getElem?_eq_getElem h]
 simp
theorem exts_ne {ops:List Oper}:∀ (f:Nat) (done:List Nat),exts ops f done≠[]
 | 0,done=>by simp [exts]
 | f+1,done=>by
  unfold exts
  split
  ·simp
  ·rename_i l hl
   cases hc:readyL ops done with
   | nil=>exact absurd hc hl
   | cons i is=>
    rw [List.flatMap_cons]
    intro h
    rw [List.append_eq_nil_iff,List.map_eq_nil_iff] at h
    exact exts_ne f _ h.1
theorem ready_eq {listed:Array Bool} {done:List Nat} (hsz:listed.size=ops.size) (hl:∀ i,listed.getD i false=done.contains i):Region.ready .any ops listed=readyL ops.toList done:=by
 unfold Region.ready readyL
 rw [Array.length_toList]
 refine List.filter_congr fun i hi=>?_
 have hi:i<ops.size:=by simpa using hi
 have h1:listed.getD i true=done.contains i:=by
  rw [←hl i,Array.getD_eq_getD_getElem?,Array.getD_eq_getD_getElem?,Array.getElem?_eq_getElem (by omega)]
  rfl
 rw [h1]
 congr 1
 have ho:ops.toList[i]?=some ops[i]:=by simp [hi]
 rw [ho,Array.getElem?_eq_getElem hi]
 show ops[i].after.all _=(direct ops[i]).all _
 rw [Bool.eq_iff_iff,Array.all_eq_true',List.all_eq_true]
 unfold direct
 simp only [List.mem_filterMap]
 constructor
 ·rintro h j ⟨e,he,hej⟩
  split at hej
  ·rename_i hb
   cases hej
   have:=h e (by simpa using he)
   rw [hb,hl] at this
   simpa using this
  ·cases hej
 ·intro h e he
  cases hb:Region.binds .any e with
  | false=>simp
  | true=>
   have:=h e.on ⟨e,by simpa using he,by rw [hb];rfl⟩
   rw [hl,this]
   simp
theorem drawE_any {β:Type} (hT:TabOk C.P T) (hΦ:CtrOk C.P Φ) (hΨ:PsiOk C.P C.ft Ψ) (hd:∀ o∈ops.toList,dstOk o C.nt=true) {k:AState→M β} {O:β→Prop} (hk:∀ s' a' w',Rel C s' a' w'→M.Ret (k s') O→Q .normal a' w'):∀ (fuel:Nat) (done:List Nat) (listed:Array Bool) (s:AState) (a:Act) (w:World),listed.size=ops.size→(∀ i,listed.getD i false=done.contains i)→goodE ops.toList fuel done=true→
  Rel C s a w→(∀ l∈exts ops.toList fuel done,M.Ret (runE C.ft T Φ Ψ ops l s k) O)→wpAnyIn (rnd C.r) 0 C.P .any ops Q fuel listed a w:=by
 intro fuel
 induction fuel with
 | zero=>
  intro done listed s a w hsz hl hg hr hm
  have hrd:=ready_eq (ops:=ops) hsz hl
  refine ⟨?_,hk s a w hr (hm [] (by simp [exts]))⟩
  rw [hrd]
  exact List.isEmpty_iff.1 hg
 | succ fuel ih=>
  intro done listed s a w hsz hl hg hr hm
  have hrd:=ready_eq (ops:=ops) hsz hl
  refine ⟨fun h0=>?_,fun i hi=>?_⟩
  ·rw [hrd] at h0
   refine hk s a w hr (hm [] ?_)
   unfold exts
   rw [h0]
   simp
  ·rw [hrd] at hi
   obtain ⟨hil,hin,o,ho,_⟩:=mem_readyL.1 hi
   have hil:i<ops.size:=by simpa using hil
   have ho':ops[i]?=some o:=by simpa using ho
   have hmo:o∈ops.toList:=List.mem_of_getElem? ho
   have hmem:∀ l∈exts ops.toList fuel (i::done),M.Ret (stepE C.ft T Φ Ψ ops o s fun s'=>runE C.ft T Φ Ψ ops l s' k) O:=fun l hle=>by
    have:=hm (i::l) (by
     unfold exts
     split
     ·rename_i h0;rw [h0] at hi;cases hi
     ·exact List.mem_flatMap.2 ⟨i,hi,List.mem_map.2 ⟨l,hle,rfl⟩⟩)
    unfold runE at this
    rw [ho'] at this
    exact this
   obtain ⟨g1,g2⟩:=stepE_ok (Q:=Q) (L:=(exts ops.toList fuel (i::done)).map fun l=>fun s'=>runE C.ft T Φ Ψ ops l s' k) (by simpa using exts_ne fuel (i::done)) hT hΦ hΨ (hd o hmo) hr
    (fun k' hk'=>by obtain ⟨l,hle,rfl⟩:=List.mem_map.1 hk';exact hmem l hle)
    (K:=wpAnyIn (rnd C.r) 0 C.P .any ops Q fuel (listed.setIfInBounds i true)) fun s' a' w' hr' hms=>by
     refine ih (i::done) _ s' a' w' (by simpa using hsz) (fun j=>?_) ?_ hr' fun l hle=>hms _ (List.mem_map.2 ⟨l,hle,rfl⟩)
     ·by_cases e:j=i
      ·subst e
       rw [Array.getD_eq_getD_getElem?,Array.getElem?_setIfInBounds_self_of_lt (by omega)]
       simp
      ·rw [getD_set_ne false (Ne.symm e),hl j]
       simp [e]
     ·unfold goodE at hg
      rw [List.all_eq_true] at hg
      exact hg i hi
   unfold wpOpIn
   rw [ho']
   simp only
   have hw:Region.wanted o (yielded ops a.tmps)=true:=by unfold Region.wanted;rw [g1]
   rw [if_pos hw]
   exact g2
theorem draw_ok {β:Type} {id:Nat} (hmix:C.P.follows .mixedOrders=true) (hT:TabOk C.P T) (hΦ:CtrOk C.P Φ) (hΨ:PsiOk C.P C.ft Ψ) (hd:∀ o∈ops.toList,dstOk o C.nt=true) {k:AState→M β} {O:β→Prop}
  (hk:∀ s' a' w',Rel C s' a' w'→M.Ret (k s') O→Q .normal a' w') {a:Act} {w:World} (hr:Rel C s a w) (hm:M.Ret (drawI C.ft T Φ Ψ ops s k) O):(Code.region id ops true).wpIn (rnd C.r) 0 C.P Q a w:=by
 unfold drawI at hm
 split at hm
 ·rename_i l s' hs
  split at hm
  ·rename_i hok
   obtain ⟨h1,h2⟩:=reqs_ret _ hm
   refine wpIn_region_any hmix ?_
   obtain ⟨κ,F,hrk⟩:=hr
   refine draw_any hT hΦ hd hs hok (fun r hr p hp=>h1 p (List.mem_flatMap.2 ⟨r,hr,hp⟩)) (fun a' w' hr'=>hk s' a' w' hr' h2) ops.size (Array.replicate ops.size false) a _ (by simp) (fun j o _ hl=>?_) ?_ ⟨κ,F,?_⟩
   ·have:(Array.replicate ops.size false).getD j false=false:=by
     rw [Array.getD_eq_getD_getElem?,Array.getElem?_replicate]
     split<;>rfl
    rw [this] at hl
    cases hl
   ·have:=List.length_filter_le (fun j=>!(Array.replicate ops.size false).getD j false) (List.range ops.size)
    simpa using this
   ·have:stA l s (fun j=>(Array.replicate ops.size false).getD j false)=s:=by
     unfold stA
     rw [List.filter_eq_nil_iff.2 fun p _=>?_]
     ·rfl
     ·simp only [Array.getD_eq_getD_getElem?,Array.getElem?_replicate]
      split<;>simp
    rw [this]
    exact hrk.drew
  ·exact hm.1.elim
 ·split at hm
  ·rename_i l s' hs
   split at hm
   ·rename_i hok
    rw [Bool.and_eq_true] at hok
    obtain ⟨h1,h2⟩:=reqs_ret _ hm
    refine wpIn_region_any hmix ?_
    obtain ⟨κ,F,hrk⟩:=hr
    have cont:(drawSuf ops.toList≤ops.size∧∀ j,drawSuf ops.toList≤j→j<ops.size→∀ i,i<drawSuf ops.toList→i∈(closure ops.toList).getD j [])∧∀ (fuel:Nat) (listed:Array Bool) a' w',listed.size=ops.size→(∀ i,listed.getD i false=decide (i<drawSuf ops.toList))→ops.size - drawSuf ops.toList≤fuel→Rel C s' a' w'→wpAnyIn (rnd C.r) 0 C.P .any ops Q fuel listed a' w':=by
     by_cases hent:entEnd ops.toList=true
     ·have en:drawSuf ops.toList=ops.size - 5:=by unfold drawSuf;rw [if_pos hent];simp
      obtain ⟨e1,e2⟩:=draw_ent_ok (Q:=Q) hent en hT hΦ hΨ hd hk h2
      exact ⟨e1,fun fuel listed a' w' hsz hall hfu hr'=>e2 a' w' hr' fuel listed hsz hall hfu⟩
     ·have en:drawSuf ops.toList=sufGo (closure ops.toList) ops.toList.length:=by unfold drawSuf;rw [if_neg hent]
      obtain ⟨hn1,hn2⟩:=sufGo_spec (closure ops.toList) ops.toList.length
      have hn1:drawSuf ops.toList≤ops.size:=by rw [en];simpa using hn1
      have hn2:∀ j,drawSuf ops.toList≤j→j<ops.size→∀ i,i<j→i∈(closure ops.toList).getD j []:=fun j h1 h2=>hn2 j (by rw [←en];exact h1) (by simpa using h2)
      refine ⟨⟨hn1,fun j h1 h2 i hi=>hn2 j h1 h2 i (by omega)⟩,fun fuel listed a' w' hsz hall hfu hr'=>?_⟩
      refine draw_suf hok.2 hn2 (ops.size - drawSuf ops.toList) (drawSuf ops.toList) fuel listed a' w' (Nat.le_refl _) (by omega) hsz hall hfu ?_
      have hlen:(ops.toList.drop (drawSuf ops.toList)).length=ops.size - drawSuf ops.toList:=by simp
      rw [←hlen]
      exact regI_ok (Q:=Q) hT hΦ hΨ hd hk _ _ [] s' a' w' rfl (fun p hp=>by cases hp) hr' h2
    obtain ⟨⟨hn1,hn2⟩,hcont⟩:=cont
    refine draw_pre hn1 hT hΦ hd hs hok.1 hn2 (fun r hr p hp=>h1 p (List.mem_flatMap.2 ⟨r,hr,hp⟩)) (fun fuel listed a' w' hsz hall hfu hr'=>?_) ops.size (Array.replicate ops.size false) a _ (by simp) (fun j o _ hl=>?_) (fun i _=>?_) ?_ ⟨κ,F,?_⟩
    ·exact hcont fuel listed a' w' hsz hall hfu hr'
    ·have:(Array.replicate ops.size false).getD j false=false:=by
      rw [Array.getD_eq_getD_getElem?,Array.getElem?_replicate]
      split<;>rfl
     rw [this] at hl
     cases hl
    ·rw [Array.getD_eq_getD_getElem?,Array.getElem?_replicate]
     split<;>rfl
    ·have:=List.length_filter_le (fun j=>!(Array.replicate ops.size false).getD j false) (List.range ops.size)
     simpa using this
    ·have:stA l s (fun j=>(Array.replicate ops.size false).getD j false)=s:=by
      unfold stA
      rw [List.filter_eq_nil_iff.2 fun p _=>?_]
      ·rfl
      ·simp only [Array.getD_eq_getD_getElem?,Array.getElem?_replicate]
       split<;>simp
     rw [this]
     exact hrk.drew
   ·exact hm.1.elim
  ·unfold drawE at hm
   split at hm
   ·rename_i hgd
    refine wpIn_region_any hmix ?_
    obtain ⟨κ,F,hrk⟩:=hr
    refine drawE_any hT hΦ hΨ hd hk ops.size [] (Array.replicate ops.size false) s a _ (by simp) (fun i=>?_) hgd ⟨κ,F,hrk.drew⟩ fun l hle=>⟨hm.1 _ (List.mem_map.2 ⟨l,hle,rfl⟩),fun y hy=>hm.2 y ⟨_,List.mem_map.2 ⟨l,hle,rfl⟩,hy⟩⟩
    rw [Array.getD_eq_getD_getElem?,Array.getElem?_replicate]
    split<;>simp
   ·exact hm.1.elim
end
end Go.Fer
namespace Go.Fer
open Go.RowKit
theorem ret_fail {β:Type} {O:β→Prop} (h:M.Ret (M.fail:M β) O):False:=h.1
theorem rdM_ret {β:Type} {sh:Shape} {s:AState} {k:sh.Den→M β} {O:β→Prop} (h:M.Ret (sh.rdM s k) O):∃ σ,sh.rd s=some σ∧M.Ret (k σ) O:=by
 unfold Shape.rdM at h
 split at h
 ·rename_i σ hσ;exact ⟨σ,hσ,h⟩
 ·exact (ret_fail h).elim
def markD (B:Nat):Deferred:={ target:=.collected B,args:=#[] }
structure UpD where
 w:World
 K:Nat→Prop
 ms:List Nat
def Ctx.up (C:Ctx) (u:UpD):Ctx:={ C with w0:=u.w,K0:=u.K,dfr:=u.ms.map markD++C.dfr }
structure Ctx.UpOk (C:Ctx) (u:UpD):Prop where
 mks:∀ B∈u.ms,u.K B∧u.w.heap[B]?=some (.deferred (some []))
 new:∀ B∈u.ms,¬C.K0 B∧C.w0.heap.size≤B
 nd:u.ms.Nodup
 k0:∀ r,C.K0 r→u.K r
 keep:∀ r,C.K0 r→u.w.heap[r]?=C.w0.heap[r]?
 size:C.w0.heap.size≤u.w.heap.size
 calm:Calm C.w0 u.w
def Ctx.same (C:Ctx):UpD:=⟨C.w0,C.K0,[]⟩
theorem Ctx.upSame (C:Ctx):C.UpOk C.same:=⟨fun _ h=>by simp [Ctx.same] at h,fun _ h=>by simp [Ctx.same] at h,List.nodup_nil,fun _ h=>h,fun _ _=>rfl,Nat.le_refl _,Calm.refl _⟩
def UpD.then (u v:UpD):UpD:=⟨v.w,v.K,v.ms++u.ms⟩
theorem Ctx.up_then (C:Ctx) (u v:UpD):(C.up u).up v=C.up (u.then v):=by
 simp [Ctx.up,UpD.then]
theorem Ctx.UpOk.then {C:Ctx} {u v:UpD} (h:C.UpOk u) (k:(C.up u).UpOk v):C.UpOk (u.then v) where
 mks:=fun B hB=>by
  rcases List.mem_append.1 hB with hB | hB
  ·exact k.mks B hB
  ·obtain ⟨h1,h2⟩:=h.mks B hB
   exact ⟨k.k0 B h1,(k.keep B h1).trans h2⟩
 new:=fun B hB=>by
  rcases List.mem_append.1 hB with hB | hB
  ·obtain ⟨h1,h2⟩:=k.new B hB
   exact ⟨fun h3=>h1 (h.k0 B h3),Nat.le_trans h.size h2⟩
  ·exact h.new B hB
 nd:=List.nodup_append.2 ⟨k.nd,h.nd,fun a ha b hb e=>(k.new a ha).1 (e ▸ (h.mks b hb).1)⟩
 k0:=fun r hr=>k.k0 r (h.k0 r hr)
 keep:=fun r hr=>(k.keep r (h.k0 r hr)).trans (h.keep r hr)
 size:=Nat.le_trans h.size k.size
 calm:=h.calm.trans k.calm
theorem RelK.rebaseF {C:Ctx} {s:AState} {a:Act} {w:World} {κ:Nat→KB} {F F':Nat→Prop} (h:RelK C s a w κ F) {w0 w':World} {F0 K0:Nat→Prop} {nt:Nat} {dfr:List Deferred} {r:Option Nat} {sl:Nat→AV} {a':Act}
    (htsz:a'.tmps.size=nt) (hdfr:a'.defers=dfr) (hnt:nt≤TMAX) (hsl:∀ i,RA C.P s.blk κ F w (sl i) (a'.tmps.getD i undef)) (hno:∀ l A L n st,sl TRS≠.tr l A L n st)
    (heq:∀ r,F r∨(∃ b,(s.blk b).body.owned (κ b)=true∧(κ b).blk=r)→w'.heap[r]?=w.heap[r]?) (hsz:w.heap.size≤w'.heap.size)
    (hF:∀ r,F r→F' r) (hfs:∀ r,F' r→r<w'.heap.size) (hdis:∀ b,(s.blk b).body.owned (κ b)=true→¬F' (κ b).blk)
    (hflo:∀ r,F' r→F0 r∨¬K0 r) (hfhi:∀ r,F0 r→F' r) (hksz:∀ r,K0 r→r<w0.heap.size) (hkeep:∀ r,K0 r→w'.heap[r]?=w0.heap[r]?) (hown:∀ b,(s.blk b).body.owned (κ b)=true→¬K0 (κ b).blk)
    (hs0:w0.heap.size≤w'.heap.size) (hc:Calm w0 w') :
    RelK { C with w0:=w0,F0:=F0,K0:=K0,nt:=nt,dfr:=dfr,r:=r } ⟨sl,s.blk⟩ a' w' κ F':=by
  have he:Ext F w w':=⟨hsz,fun r hr=>heq r (.inl hr)⟩
  exact { tsz := htsz, dfr := hdfr, slots := fun i => RA.later (Later.refl _ _) hF he (hsl i)
          blks:=fun b=>HB.other (h.blks b) (Later.refl _ _) hF he rfl rfl fun ho=>heq _ (.inr ⟨b,ho,rfl⟩)
          own:=fun b hb=>⟨Nat.lt_of_lt_of_le (h.own b hb).1 hsz,hdis b hb,hown b hb⟩,inj:=h.inj,fsz:=hfs
          flo:=hflo,fhi:=hfhi,ksz:=hksz,keep:=hkeep,size:=hs0,calm:=hc,nsz:=hnt,aran:=h.aran,anch:=h.anch,ara:=h.ara,anA:=h.anA,pro:=fun l A L n st e=>(hno l A L n st e).elim,ftok:=h.ftok }
theorem RelK.rebase {C:Ctx} {s:AState} {a:Act} {w:World} {κ:Nat→KB} {F:Nat→Prop} (h:RelK C s a w κ F) {w0 w':World} {F0 K0:Nat→Prop} {nt:Nat} {dfr:List Deferred} {r:Option Nat} {sl:Nat→AV} {a':Act}
  (htsz:a'.tmps.size=nt) (hdfr:a'.defers=dfr) (hnt:nt≤TMAX) (hsl:∀ i,RA C.P s.blk κ F w (sl i) (a'.tmps.getD i undef)) (hno:∀ l A L n st,sl TRS≠.tr l A L n st)
  (heq:∀ r,F r∨(∃ b,(s.blk b).body.owned (κ b)=true∧(κ b).blk=r)→w'.heap[r]?=w.heap[r]?) (hsz:w.heap.size≤w'.heap.size)
  (hflo:∀ r,F r→F0 r∨¬K0 r) (hfhi:∀ r,F0 r→F r) (hksz:∀ r,K0 r→r<w0.heap.size) (hkeep:∀ r,K0 r→w'.heap[r]?=w0.heap[r]?) (hown:∀ b,(s.blk b).body.owned (κ b)=true→¬K0 (κ b).blk)
  (hs0:w0.heap.size≤w'.heap.size) (hc:Calm w0 w') :
  RelK { C with w0:=w0,F0:=F0,K0:=K0,nt:=nt,dfr:=dfr,r:=r } ⟨sl,s.blk⟩ a' w' κ F:=
 h.rebaseF htsz hdfr hnt hsl hno heq hsz (fun _ h=>h) (fun r hr=>Nat.lt_of_lt_of_le (h.fsz r hr) hsz) (fun b hb=>(h.own b hb).2.1) hflo hfhi hksz hkeep hown hs0 hc
theorem RelK.rebase2 {C:Ctx} {s:AState} {a:Act} {w:World} {κ:Nat→KB} {F:Nat→Prop} (h:RelK C s a w κ F) {w0 w':World} {K0:Nat→Prop} {r:Option Nat}
    (hK:∀ r,K0 r→C.K0 r) (heq:∀ r,F r∨¬C.K0 r→w'.heap[r]?=w.heap[r]?) (hsz:w.heap.size≤w'.heap.size) (hcw:Calm w w')
    (hksz:∀ r,K0 r→r<w0.heap.size) (hkeep:∀ r,K0 r→w'.heap[r]?=w0.heap[r]?) (hs0:w0.heap.size≤w'.heap.size) (hc:Calm w0 w') :
    RelK { C with w0:=w0,K0:=K0,r:=r } s a w' κ F:=by
  have he:Ext F w w':=⟨hsz,fun r hr=>heq r (.inl hr)⟩
  have hfs:∀ r,F r→r<w'.heap.size:=fun r hr=>Nat.lt_of_lt_of_le (h.fsz r hr) hsz
  exact { tsz := h.tsz, dfr := h.dfr, slots := fun i => RA.later (Later.refl _ _) (fun _ h => h) he (h.slots i)
          blks:=fun b=>HB.other (h.blks b) (Later.refl _ _) (fun _ h=>h) he rfl rfl fun ho=>heq _ (.inr (h.own b ho).2.2)
          own:=fun b hb=>⟨Nat.lt_of_lt_of_le (h.own b hb).1 hsz,(h.own b hb).2.1,fun k=>(h.own b hb).2.2 (hK _ k)⟩,inj:=h.inj,fsz:=hfs
          flo:=fun r hr=>(h.flo r hr).imp id fun k k'=>k (hK r k'),fhi:=h.fhi,ksz:=hksz,keep:=hkeep,size:=hs0,calm:=hc,nsz:=h.nsz,aran:=h.aran,anch:=h.anch,ara:=h.ara,anA:=h.anA
          pro:=fun l A L n st e=>by
            obtain ⟨h1,h2,Y,h3,h4,h5⟩:=h.pro l A L n st e
            exact ⟨h1,h2,Y,fun r hr=>⟨Nat.lt_of_lt_of_le (h3 r hr).1 hsz,(h3 r hr).2.1,fun k=>(h3 r hr).2.2 (hK r k)⟩,h4,h2.stabAt h5 (fun _ h=>h) (fun r hr=>heq r (hr.imp id fun hy=>(h3 r hy).2.2)) hsz hcw hfs fun r hf hy=>(h3 r hy).2.1 hf⟩
          ftok:=h.ftok }
theorem setPs_ok {P:Program} {H:Nat→ABlk} {κ:Nat→KB} {F:Nat→Prop} {w:World} {A:Ty} {x:A.Den}:∀ (ps:List Tmp) (args:List Value) (j:Nat) (f:Nat→AV) (tm:Array Value),ps.length=args.length→(∀ p∈ps,p<tm.size)→
  (∀ i,RA P H κ F w (f i) (tm.getD i undef))→(∀ i,i<args.length→RA P H κ F w (resAV A x (j+i)) (args.getD i undef))→
  ∀ i,RA P H κ F w (setPs A x ps j f i) (((ps.zip args).foldl (fun tmps p=>tmps.setIfInBounds p.1 p.2) tm).getD i undef)
 | [],[],_,_,_,_,_,hf,_,i=>hf i
 | p::ps,v::args,j,f,tm,hl,hp,hf,hv,i=>by
  simp only [setPs,List.zip_cons_cons,List.foldl_cons]
  refine setPs_ok ps args (j+1) _ _ (by simpa using hl) (fun q hq=>by simpa using hp q (List.mem_cons_of_mem _ hq)) (fun i=>?_) (fun i hi=>?_) i
  ·rw [Array.getD_eq_getD_getElem?,Array.getElem?_setIfInBounds]
   by_cases e:i=p
   ·subst e
    rw [if_pos rfl,if_pos rfl,if_pos (hp i (by simp))]
    simpa using hv 0 (by simp)
   ·rw [if_neg e,if_neg (Ne.symm e)]
    rw [←Array.getD_eq_getD_getElem?]
    exact hf i
  ·have:=hv (i+1) (by simpa using hi)
   rw [show j+(i+1)=j+1+i by omega] at this
   simpa using this
theorem setPs_size {ps:List Tmp} {args:List Value}:∀ {tm:Array Value},((ps.zip args).foldl (fun tmps p=>tmps.setIfInBounds p.1 p.2) tm).size=tm.size:=by
 generalize ps.zip args=l
 induction l with
 | nil=>intro tm;rfl
 | cons p l ih=>intro tm;simp only [List.foldl_cons];rw [ih];simp
end Go.Fer
namespace Go.Fer
open Go.RowKit
def jumpOf:Ex→Option Code
 | .normal=>none
 | .exit id=>some (.exit id)
 | .ret=>some .ret
def lrec (fn:FuncId) (tm:Array Value) (ps:Array Tmp) (assign body:Code) (B:Nat) (st:LoopState) (e:Ex):Loop:=
 { state:=st,pending:=jumpOf e,fn:=fn,tmps:=tm,params:=ps,assign:=assign,body:=body,defers:=B }
def RoundWalk (P:Program) (ft:FnTab) (nt:Nat) (assign body:Code) (l:Nat) {rout:Shape} (run:AState→M (Ex×rout.Den)):Prop:=
 ∀ (C1:Ctx),C1.P=P→C1.ft=ft→C1.nt=nt→C1.r=some l→∀ (s1:AState) (a1:Act) (w1:World) (O1:Ex×rout.Den→Prop),Rel C1 s1 a1 w1→M.Ret (run s1) O1→
  assign.wpIn (rnd (some l)) 0 P (Exit.then (fun a2 w2=>∃ u s2,C1.UpOk u∧Rel (C1.up u) s2 a2 w2∧
   ∀ (C2:Ctx),C2.P=P→C2.ft=ft→C2.nt=nt→C2.r=some l→∀ (w2:World),Rel C2 s2 a2 w2→
    body.wpIn (rnd (some l)) 0 P (fun e a3 w3=>∃ (e':Ex) (v:UpD) (s3:AState) (τ:rout.Den),e=e'.the∧C2.UpOk v∧Rel (C2.up v) s3 a3 w3∧rout.rd s3=some τ∧O1 (e',τ)) a2 w2) (fun _ _ _=>False)) a1 w1
theorem look_empty {ts:List (Nat×TAV)} {R:Type} (h:ts.isEmpty=true) (g:Nat→Nat×Nat) (z:slotDen ts R) (i:Nat):look (slotsL g ts z).1 i=.undef:=by
 cases ts with
 | nil=>rfl
 | cons p ts=>cases h
theorem roundPost_of {P:Program} {l:Nat} {R:Ending→World→Prop} {e:Ex} {a:Act} {w:World} {r:Loop} (h:w.heap[l]?=some (.loop r))
  (hR:R (.returned (.bool (jumpOf e).isNone)) (w.putObj l (.loop { r with state:=if (jumpOf e).isNone then .ready else .done,pending:=jumpOf e }))):roundPost P l R e.the a w:=by
 cases e with
 | normal=>exact ⟨_,_,run_endRound none h,hR⟩
 | exit id=>exact ⟨_,_,run_endRound (some (.exit id)) h,hR⟩
 | ret=>exact ⟨_,_,run_endRound (some .ret) h,hR⟩
theorem round_ok {CI:Ctx} {sh rin rout:Shape} {A:Ty} {ps:Array Tmp} {assign body:Code} {a:Act} {W:World} {κ:Nat→KB} {F:Nat→Prop} {σ:sh.Den} {fn:FuncId} {l B:Nat} {x:A.Den} {args:List Value} {run:AState→M (Ex×rout.Den)}
  {Or:Ex×sh.Den→Prop} {Y Z:Nat→Prop} (hZ:Z l)
  (hr:RelK CI (sh.st σ) a W κ F) (hck:rangeOk sh rout A ps.toList a.tmps.size=true) (hwalk:RoundWalk CI.P CI.ft a.tmps.size assign body l run) (hm:M.Ret (roundI sh rin rout A ps.toList σ x run) Or)
  (hl:W.heap[l]?=some (.loop (lrec fn a.tmps ps assign body B .ready .normal))) (hlF:¬F l) (hlo:∀ b,((sh.st σ).blk b).body.owned (κ b)=true→Y (κ b).blk∧¬Z (κ b).blk) (hargs:RArgs CI.P A F W args x) :
  ∃ tmps,(Instr.yield l args.toArray).run CI.P W=.ok (.round l fn tmps assign body) W∧RoundIn Fence.wide 0 CI.P l fn tmps assign body W fun e W'=>
   ∃ (e0:Ex) (σ':sh.Den) (κ':Nat→KB) (F':Nat→Prop) (o:Obj),e=.returned (.bool (jumpOf e0).isNone)∧Or (e0,σ')∧W'.heap[l]?=some (.loop (lrec fn a.tmps ps assign body B (if (jumpOf e0).isNone then .ready else .done) e0))∧
    RelK { CI with w0:=W.putObj l o,F0:=F,K0:=fun r=>r<W.heap.size∧(Z r∨¬Y r) } (sh.st σ') a W' κ' F':=by
 simp only [rangeOk,Bool.and_eq_true,decide_eq_true_eq,Bool.not_eq_true',List.all_eq_true] at hck
 obtain ⟨⟨⟨⟨k1,k2⟩,k3⟩,k4⟩,k5⟩:=hck
 have hlsz:l<W.heap.size:=(Array.getElem?_eq_some_iff.1 hl).1
 obtain ⟨hal,hav⟩:=args_ok (H:=(sh.st σ).blk) (κ:=κ) A hargs k3
 have hno:(sh.st σ).slot TRS=.undef:=look_none sh.slots gId σ TRS k2
 have hfold:(Array.zip ps args.toArray).foldl (fun tmps (x:Tmp×Value)=>match x with | (t,a)=>tmps.setIfInBounds t a) a.tmps=(ps.toList.zip args).foldl (fun tmps p=>tmps.setIfInBounds p.1 p.2) a.tmps:=by
  rw [←Array.foldl_toList]
  simp
 refine ⟨(ps.toList.zip args).foldl (fun tmps p=>tmps.setIfInBounds p.1 p.2) a.tmps,?_,?_⟩
 ·rw [←hfold]
  exact run_yield hl (by show args.toArray.size=ps.size;simp [hal,←k4])
 have hry:RelK { CI with w0:=W,F0:=F,K0:=fun r=>r<W.heap.size∧(Z r∨¬Y r) } (sh.st σ) a W κ F:=
  hr.rebase hr.tsz hr.dfr hr.nsz hr.slots (fun l A L n st e=>by have e:(sh.st σ).slot TRS=.tr l A L n st:=e;rw [hno] at e;cases e) (fun _ _=>rfl) (Nat.le_refl _) (fun _ h=>.inl h) (fun _ h=>h) (fun _ h=>h.1) (fun _ _=>rfl)
   (fun b hb h=>h.2.elim (hlo b hb).2 fun h=>h (hlo b hb).1) (Nat.le_refl _) (Calm.refl _)
 unfold roundI at hm
 split at hm
 ·rename_i ρ fl hρ
  split at hm
  ·rename_i hok
   rw [M.ret_bind] at hm
   have hr1:RelK { CI with w0:=W,F0:=F,K0:=fun r=>r<W.heap.size∧(Z r∨¬Y r),nt:=a.tmps.size,dfr:=[],r:=none } ⟨(roundSt (sh.st σ) A x ps.toList).slot,(sh.st σ).blk⟩ { tmps:=(ps.toList.zip args).foldl (fun tmps p=>tmps.setIfInBounds p.1 p.2) a.tmps,defers:=[] } W κ F:=by
    refine hr.rebase setPs_size rfl (by rw [hr.tsz];exact hr.nsz) (fun i=>?_) (fun l' A' L' n' st' e=>?_) (fun _ _=>rfl) (Nat.le_refl _) (fun _ h=>.inl h) (fun _ h=>h) (fun _ h=>h.1) (fun _ _=>rfl)
     (fun b hb h=>h.2.elim (hlo b hb).2 fun h=>h (hlo b hb).1) (Nat.le_refl _) (Calm.refl _)
    ·show RA CI.P (sh.st σ).blk κ F W (if i=TRS then (sh.st σ).slot TRS else setPs A x ps.toList 0 (sh.st σ).slot i) _
     split
     ·rw [hno];trivial
     ·exact setPs_ok ps.toList args 0 _ _ (by rw [k4,hal]) (fun p hp=>by simpa using k5 p hp) hr.slots (fun i hi=>by rw [Nat.zero_add];exact hav i (by omega)) i
    ·have e:(if TRS=TRS then (sh.st σ).slot TRS else setPs A x ps.toList 0 (sh.st σ).slot TRS)=.tr l' A' L' n' st':=e
     rw [if_pos rfl,hno] at e
     cases e
   obtain ⟨F',own,Y',an,f1,hr',hown,hY',htr,hcal,hlv⟩:=io_core (c:=roundIO rin rout) hry hr1 (by simp [roundSt]) hρ rfl hok
   have hKl:l<W.heap.size∧(Z l∨¬Y l):=⟨hlsz,.inl hZ⟩
   have hF'l:¬F' l:=fun h=>(hr'.flo l h).elim hlF fun h=>h hKl
   have howl:¬own l:=fun h=>by
    obtain ⟨b,h1,h2⟩:=hown l h
    exact (hr'.own b h1).2.2 (h2 ▸ hKl)
   have hYl:¬Y' l:=fun h=>(hY'.low l h).2.2 hKl
   have hK1:l<W.heap.size∧¬own l∧¬Y' l:=⟨hlsz,howl,hYl⟩
   have hc1:RelK { ioC CI W F' a.tmps.size own Y' an with r:=some l } (rin.st ρ) _ W _ F':=hcal.rebase2 (w0:=W) (w':=W) (K0:=fun r=>r<W.heap.size∧¬own r∧¬Y' r) (r:=some l) (fun _ h=>h) (fun _ _=>rfl) (Nat.le_refl _) (Calm.refl _) (fun _ h=>h.1) (fun _ _=>rfl) (Nat.le_refl _) (Calm.refl _)
   refine roundIn_of_wpIn trivial ?_
   refine wpIn_mono (hwalk { ioC CI W F' a.tmps.size own Y' an with r:=some l } rfl rfl rfl rfl (rin.st ρ) _ W _ ⟨_,_,hc1⟩ hm) fun e a2 w2 hq=>?_
   cases e with
   | normal=>
    obtain ⟨u,s2,hu,⟨κ2,F2,hr2⟩,hbody⟩:=hq
    have hul:u.K l:=hu.k0 l hK1
    have hl2:w2.heap[l]?=some (.loop (lrec fn a.tmps ps assign body B .ready .normal)):=(hr2.keep l hul).trans ((hu.keep l hK1).trans hl)
    refine ⟨_,run_beginRound hl2 rfl,?_⟩
    have hl2s:l<w2.heap.size:=(Array.getElem?_eq_some_iff.1 hl2).1
    have hF2l:¬F2 l:=fun h=>(hr2.flo l h).elim hF'l fun h=>h hul
    have hc2:=hr2.rebase2 (w0:=w2.putObj l (.loop (lrec fn a.tmps ps assign body B .busy .normal))) (w':=w2.putObj l (.loop (lrec fn a.tmps ps assign body B .busy .normal))) (K0:=u.K) (r:=some l) (fun _ h=>h)
     (fun r h=>World.putObj_heap_other fun e=>by
      subst e
      exact h.elim hF2l fun h=>h hul) (by simp) ⟨rfl,rfl,rfl⟩ (fun r h=>by
       have:=hr2.ksz r h;have:=hr2.size
       simp;omega) (fun _ _=>rfl) (Nat.le_refl _) (Calm.refl _)
    refine wpIn_mono (hbody { ({ ioC CI W F' a.tmps.size own Y' an with r:=some l }:Ctx).up u with w0:=w2.putObj l (.loop (lrec fn a.tmps ps assign body B .busy .normal)),K0:=u.K,r:=some l } rfl rfl rfl rfl _ ⟨κ2,F2,hc2⟩) fun e a3 w3 ⟨e',v,s3,τ,he,hv,⟨κ3,F3,hr3⟩,hτ,hO⟩=>?_
    subst he
    obtain ⟨κ3,F4,f4,hr4⟩:=Shape.rd_okK hτ hr3
    have hvl:v.K l:=hv.k0 l hul
    have hl3:w3.heap[l]?=some (.loop (lrec fn a.tmps ps assign body B .busy .normal)):=(hr4.keep l hvl).trans ((hv.keep l hul).trans (World.putObj_heap_same hl2s))
    have hl3s:l<w3.heap.size:=(Array.getElem?_eq_some_iff.1 hl3).1
    have hF4l:¬F4 l:=fun h=>(hr4.flo l h).elim hF'l fun h=>h hvl
    generalize hst:(if (jumpOf e').isNone then LoopState.ready else .done)=st'
    refine roundPost_of hl3 ?_
    rw [hst]
    have hb1:RelK { CI with w0:=W.putObj l (.loop (lrec fn a.tmps ps assign body B st' e')),F0:=F,K0:=fun r=>r<W.heap.size∧(Z r∨¬Y r) } ((sh.st σ).frz fl) a (W.putObj l (.loop (lrec fn a.tmps ps assign body B st' e'))) κ F':=
     hr'.rebase2 (fun _ h=>h) (fun r h=>World.putObj_heap_other fun e=>by
      subst e
      exact h.elim hF'l fun h=>h hKl) (by simp) ⟨rfl,rfl,rfl⟩ (fun r h=>by simpa using h.1) (fun _ _=>rfl) (Nat.le_refl _) (Calm.refl _)
    have hwsz:W.heap.size≤w3.heap.size:=by
     have h1:=hu.size;have h2:=hr2.size;have h3:=hv.size;have h4:=hr4.size
     have h1:W.heap.size≤u.w.heap.size:=h1
     have h2:u.w.heap.size≤w2.heap.size:=h2
     have h3:(w2.putObj l (.loop (lrec fn a.tmps ps assign body B .busy .normal))).heap.size≤v.w.heap.size:=h3
     have h4:v.w.heap.size≤w3.heap.size:=h4
     simp only [World.putObj_size] at h3
     omega
    have hcalm:Calm W w3:=by
     have h1:Calm W u.w:=hu.calm
     have h2:Calm u.w w2:=hr2.calm
     have h3:Calm w2 v.w:=⟨hv.calm.os,hv.calm.tape,hv.calm.output⟩
     exact h1.trans (h2.trans (h3.trans hr4.calm))
    have hempty:∀ i,(rout.st τ).slot i=.undef:=fun i=>look_empty k1 gId τ i
    have hcv:∀ r,(r<(W.putObj l (.loop (lrec fn a.tmps ps assign body B st' e'))).heap.size∧¬own r∧¬Y' r)→(r<W.heap.size∧¬own r∧¬Y' r):=fun r h=>⟨by simpa using h.1,h.2⟩
    have hret:=hr4.rebase (w0:=W.putObj l (.loop (lrec fn a.tmps ps assign body B st' e'))) (w':=w3.putObj l (.loop (lrec fn a.tmps ps assign body B st' e'))) (F0:=F') (K0:=fun r=>r<(W.putObj l (.loop (lrec fn a.tmps ps assign body B st' e'))).heap.size∧¬own r∧¬Y' r) (nt:=0) (dfr:=[]) (r:=none) (sl:=(rout.st τ).slot) (a':={ tmps:=#[],defers:=[] }) rfl rfl (Nat.zero_le _)
     (fun i=>by rw [hempty];trivial) (fun l A L n st e=>by rw [hempty] at e;cases e)
     (fun r h=>World.putObj_heap_other fun e=>by
      subst e
      rcases h with h | ⟨b,h1,h2⟩
      ·exact hF4l h
      ·exact (hr4.own b h1).2.2 (h2 ▸ hvl)) (by simp) (fun r h=>(hr4.flo r h).imp id fun h h'=>h (hv.k0 r (hu.k0 r (hcv r h')))) hr4.fhi (fun r h=>h.1)
     (fun r h=>by
      by_cases e:r=l
      ·subst e
       rw [World.putObj_heap_same hl3s,World.putObj_heap_same hlsz]
      ·rw [World.putObj_heap_other e,World.putObj_heap_other e]
       have h1:u.K r:=hu.k0 r (hcv r h)
       exact (hr4.keep r (hv.k0 r h1)).trans ((hv.keep r h1).trans ((World.putObj_heap_other e).trans ((hr2.keep r h1).trans (hu.keep r (hcv r h))))))
     (fun b hb h=>(hr4.own b hb).2.2 (hv.k0 _ (hu.k0 _ (hcv _ h)))) (by simpa using hwsz) ⟨hcalm.os,hcalm.tape,hcalm.output⟩
    obtain ⟨κn,hfin,_⟩:=hlv (W.putObj l (.loop (lrec fn a.tmps ps assign body B st' e'))) (W.putObj l (.loop (lrec fn a.tmps ps assign body B st' e'))) hb1 ⟨fun l' A' L' n' st' e=>(by
      have:=htr l' A' L' n' st' e
      rw [hno] at this
      cases this),fun r h=>⟨by simpa using (hY'.low r h).1,(hY'.low r h).2⟩,hY'.own,hY'.non⟩ τ [] (w3.putObj l (.loop (lrec fn a.tmps ps assign body B st' e'))) κ3 F4 hret
    obtain ⟨σ',hσ',hO'⟩:=rdM_ret hO
    obtain ⟨κn,F5,_,hr5⟩:=Shape.rd_okK hσ' hfin
    exact ⟨e',σ',κn,F5,(.loop (lrec fn a.tmps ps assign body B st' e')),rfl,M.ret_pure.1 hO',by rw [hst];exact World.putObj_heap_same hl3s,hr5⟩
   | _=>exact hq.elim
  ·exact hm.1.elim
 ·exact hm.1.elim
theorem heap_alloc2 {w:World} {o o':Obj} {r:Nat} (h:r<w.heap.size):((w.alloc o).alloc o').heap[r]?=w.heap[r]?:=
 (heap_alloc_lt _ _ (by simp;omega)).trans (heap_alloc_lt _ _ h)
def RoundInv (C CI:Ctx) {β:Type} (sh rin rout:Shape) (A:Ty) (D:List A.Den→Prop) (ps:Array Tmp) (assign body:Code) (a:Act) (fn:FuncId) (l B:Nat) (run:AState→M (Ex×rout.Den)) (k:Ex→AState→M β) (O:β→Prop)
  (st:Bool) (F Y:Nat→Prop) (W:World):Prop:=
 ∃ (e:Ex) (σ:sh.Den) (κ:Nat→KB),RelK CI (sh.st σ) a W κ F∧W.heap[l]?=some (.loop (lrec fn a.tmps ps assign body B (if st then .done else .ready) e))∧W.heap[B]?=some (.deferred (some []))∧
  (∀ b,((sh.st σ).blk b).body.owned (κ b)=true→Y (κ b).blk∧¬((κ b).blk=l∨(κ b).blk=B))∧Y l∧Y B∧¬F l∧¬F B∧C.P=CI.P∧
  (st=false→e=.normal∧∀ R,D R→M.Ret (rounds (fun σ y=>roundI sh rin rout A ps.toList σ y run) R σ) fun p=>M.Ret (k p.1 (sh.st p.2)) O)∧(st=true→e≠.normal∧M.Ret (k e (sh.st σ)) O)
theorem roundInv_ok {C CI:Ctx} {β:Type} {sh rin rout:Shape} {A:Ty} {S:List A.Den→Prop} {ps:Array Tmp} {assign body:Code} {a:Act} {fn:FuncId} {l B:Nat} {run:AState→M (Ex×rout.Den)} {k:Ex→AState→M β} {O:β→Prop}
  (hK:CI.K0=fun _=>False) (hnB:l≠B) (hck:rangeOk sh rout A ps.toList a.tmps.size=true) (hwalk:RoundWalk CI.P CI.ft a.tmps.size assign body l run) :
  POk CI.P (RArgs CI.P A) l S fun pre=>RoundInv C CI sh rin rout A (fun R=>S (pre++R)) ps assign body a fn l B run k O where
 stab:=fun {pre st F F' Y w w'} h hF heq hsz hc' hfs hdis=>by
  have hc:Calm w w':=⟨hc'.1,hc'.2.1,hc'.2.2⟩
  obtain ⟨e,σ,κ,hr,h1,h2,h3,h4,h5,h6,h7,h8,h9⟩:=h
  have hno:(sh.st σ).slot TRS=.undef:=by
   simp only [rangeOk,Bool.and_eq_true,Bool.not_eq_true'] at hck
   exact look_none sh.slots gId σ TRS hck.1.1.1.2
  have hK':∀ r,CI.K0 r→False:=fun r h=>by rw [hK] at h;exact h
  refine ⟨e,σ,κ,?_,(heq l (.inr h4)).trans h1,(heq B (.inr h5)).trans h2,h3,h4,h5,fun h=>hdis l h h4,fun h=>hdis B h h5,h8,h9⟩
  exact hr.rebaseF hr.tsz hr.dfr hr.nsz hr.slots (fun l' A' L' n' st' e=>by have e:(sh.st σ).slot TRS=.tr l' A' L' n' st':=e;rw [hno] at e;cases e)
   (fun r hr'=>heq r (hr'.imp id fun ⟨b,hb,e⟩=>e ▸ (h3 b hb).1)) hsz hF hfs (fun b hb hf=>hdis _ hf (h3 b hb).1) (fun r _=>.inr (hK' r)) (fun r h=>hF r (hr.fhi r h)) (fun r h=>(hK' r h).elim) (fun r h=>(hK' r h).elim) (fun b _=>hK' _)
   (Nat.le_trans hr.size hsz) (hr.calm.trans hc)
 yield:=fun {pre F Y w args x} h hfs hYs hx hargs=>by
  obtain ⟨T0,hT0⟩:=hx
  obtain ⟨e,σ,κ,hr,h1,h2,h3,h4,h5,h6,h7,h8,h9,_⟩:=h
  obtain ⟨rfl,hm⟩:=h9 rfl
  have hno:∀ σ:sh.Den,(sh.st σ).slot TRS=.undef:=fun σ=>by
   simp only [rangeOk,Bool.and_eq_true,Bool.not_eq_true'] at hck
   exact look_none sh.slots gId σ TRS hck.1.1.1.2
  have hK':∀ r,CI.K0 r→False:=fun r h=>by rw [hK] at h;exact h
  have hm:M.Ret (roundI sh rin rout A ps.toList σ x run) fun p=>∀ T,S (pre++x::T)→M.Ret (match p.1 with
    | .normal=>rounds (fun σ y=>roundI sh rin rout A ps.toList σ y run) T p.2
    | .exit id=>M.pure (.exit id,p.2)
    | .ret=>M.pure (.ret,p.2)) fun p=>M.Ret (k p.1 (sh.st p.2)) O:=by
   have h1:=fun T hT=>M.ret_bind.1 (hm (x::T) hT)
   exact ⟨(h1 T0 hT0).1,fun y hy T hT=>(h1 T hT).2 y hy⟩
  obtain ⟨tmps,hy,hround⟩:=round_ok (Z:=fun r=>r=l∨r=B) (.inl rfl) hr hck hwalk hm h1 h6 h3 hargs
  refine ⟨fn,tmps,assign,body,hy,hround.mono fun e' W' ⟨e0,σ',κ',F',o,he,hO,hl',hr'⟩=>?_⟩
  have hlsz:l<w.heap.size:=(hYs l h4).1
  have hBsz:B<w.heap.size:=(hYs B h5).1
  have g1:∀ r,F r→F' r:=hr'.fhi
  have g2:∀ r,F' r→F r∨Y r∨w.heap.size≤r:=fun r hr2=>by
   rcases hr'.flo r hr2 with h | h
   ·exact .inl h
   ·by_cases hlt:r<w.heap.size
    ·by_cases hy:Y r
     ·exact .inr (.inl hy)
     ·exact (h ⟨hlt,.inr hy⟩).elim
    ·exact .inr (.inr (Nat.le_of_not_lt hlt))
  have gZ:∀ r,r<w.heap.size→¬F r→(r=l∨r=B)→¬F' r:=fun r hlt hf hz hf'=>(hr'.flo r hf').elim hf fun h=>h ⟨hlt,.inl hz⟩
  have gl:¬F' l:=gZ l hlsz h6 (.inl rfl)
  have gB:¬F' B:=gZ B hBsz h7 (.inr rfl)
  have gown:∀ b,((sh.st σ').blk b).body.owned (κ' b)=true→¬((κ' b).blk=l∨(κ' b).blk=B)∧(Y (κ' b).blk∨w.heap.size≤(κ' b).blk):=fun b hb=>by
   have hk:=(hr'.own b hb).2.2
   by_cases hlt:(κ' b).blk<w.heap.size
   ·refine ⟨fun hz=>hk ⟨hlt,.inl hz⟩,.inl ?_⟩
    by_cases hy:Y (κ' b).blk
    ·exact hy
    ·exact (hk ⟨hlt,.inr hy⟩).elim
   ·exact ⟨fun hz=>by rcases hz with hz | hz<;>rw [hz] at hlt<;>exact hlt (by assumption),.inr (Nat.le_of_not_lt hlt)⟩
  have gsz:w.heap.size≤W'.heap.size:=by have:=hr'.size;simpa using this
  have gc:Calm w W':=⟨hr'.calm.os,hr'.calm.tape,hr'.calm.output⟩
  have hassoc:∀ T,pre++[x]++T=pre++x::T:=fun T=>by simp
  refine ⟨(jumpOf e0).isNone,F',fun r=>(∃ b,((sh.st σ').blk b).body.owned (κ' b)=true∧(κ' b).blk=r)∨r=l∨r=B,he,g1,g2,hr'.fsz,fun r hlt hy=>?_,fun r hr2=>?_,gsz,⟨gc.os,gc.tape,gc.output⟩,?_⟩
  ·have hne:r≠l:=fun e=>hy (e ▸ h4)
   exact (hr'.keep r ⟨hlt,.inr hy⟩).trans (World.putObj_heap_other hne)
  ·rcases hr2 with ⟨b,hb,rfl⟩ | rfl | rfl
   ·exact ⟨(gown b hb).2,(hr'.own b hb).1,(hr'.own b hb).2.1⟩
   ·exact ⟨.inl h4,Nat.lt_of_lt_of_le hlsz gsz,gl⟩
   ·exact ⟨.inl h5,Nat.lt_of_lt_of_le hBsz gsz,gB⟩
  ·refine ⟨e0,σ',κ',?_,?_,?_,fun b hb=>⟨.inl ⟨b,hb,rfl⟩,(gown b hb).1⟩,.inr (.inl rfl),.inr (.inr rfl),gl,gB,h8,fun hst=>?_,fun hst=>?_⟩
   ·exact hr'.rebase hr'.tsz hr'.dfr hr'.nsz hr'.slots (fun l' A' L' n' st' e=>by have e:(sh.st σ').slot TRS=.tr l' A' L' n' st':=e;rw [hno] at e;cases e) (fun _ _=>rfl) (Nat.le_refl _) (fun r _=>.inr (hK' r)) (fun r h=>g1 r (hr.fhi r h))
     (fun r h=>(hK' r h).elim) (fun r h=>(hK' r h).elim) (fun b _=>hK' _) (Nat.le_trans hr.size gsz) (hr.calm.trans gc)
   ·rw [hl']
    cases e0<;>rfl
   ·exact (hr'.keep B ⟨hBsz,.inl (.inr rfl)⟩).trans ((World.putObj_heap_other (Ne.symm hnB)).trans h2)
   ·cases e0 with
    | normal=>exact ⟨rfl,fun T hT=>hO T (by have hT:S (pre++[x]++T):=hT;rwa [hassoc] at hT)⟩
    | _=>cases hst
   ·cases e0 with
    | normal=>cases hst
    | exit id=>exact ⟨by simp,(hO T0 hT0).2 _ rfl⟩
    | ret=>exact ⟨by simp,(hO T0 hT0).2 _ rfl⟩
theorem proto_of {P:Program} {l:Nat} {A:Ty} {S:List A.Den→Prop} {I:List A.Den→Bool→(Nat→Prop)→(Nat→Prop)→World→Prop} (h:POk P (RArgs P A) l S I):Proto.Ok P ⟨l,A,S,I⟩ where
 stab:=fun h1 h2 h3 h4 h5 h6 h7=>h.stab h1 h2 h3 h4 ⟨h5.os,h5.tape,h5.output⟩ h6 h7
 yield:=fun h1 h2 h3 h4 h5=>YieldAt.mono (h.yield h1 h2 h3 h4 h5) fun _ _ ⟨b,F',Y',k1,k2,k3,k4,k5,k6,k7,k8,k9⟩=>⟨b,F',Y',k1,k2,k3,k4,k5,k6,k7,⟨k8.1,k8.2.1,k8.2.2⟩,k9⟩
end Go.Fer
