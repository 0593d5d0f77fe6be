/- Part 3 of the proof of FilesCopies: shallow programs of Go functions, and what they compute. No condition. -/
import Derived.Test.YtgjjjhfempihkaaDoorFilesCopiesB
import Derived.Lib.UnsafeStr
import Derived.Lib.ConvBytes
noncomputable section
namespace Go.Fer
open Go.RowKit
theorem TyIs.rawSl {P:Program} {e:Ty} {id:TypeId} (h:TyIs P (.raws e) id):TyIs P (.slice e) id:=by
 have hi:infoOk P (.raws e) id=infoOk P (.slice e) id:=by
  unfold infoOk
  cases P.info? id with
  | none=>rfl
  | some i=>
   cases hz:i.zero with
   | none=>simp only [hz];rfl
   | some z=>simp only [hz];cases z<;>rfl
 unfold TyIs at h ⊢
 simp only [tyChk] at h ⊢
 rw [←hi]
 exact h
theorem poolAs_some {e:Ty} {b:Body} {m:List (Nat×List e.Den)} (h:poolAs e b=some m):b=.pool e m:=by
 unfold poolAs at h
 split at h
 ·split at h
  ·rename_i he
   subst he
   cases h
   rfl
  ·cases h
 ·cases h
theorem prow_mem {α:Type} {m:List (Nat×List α)} {id:Nat} (h:m.any (fun p=>p.1 == id)=true):(id,prow m id)∈m:=by
 unfold prow
 cases hf:m.find? (fun p=>p.1 == id) with
 | none=>
  obtain ⟨p,h1,h2⟩:=List.any_eq_true.1 h
  exact absurd h2 (List.find?_eq_none.1 hf p h1)
 | some p=>
  have h1:=List.find?_some hf
  have h2:=List.mem_of_find?_eq_some hf
  have h1:p.1=id:=by simpa using h1
  rw [←h1]
  exact h2
theorem prow_of {α:Type} {m:List (Nat×List α)} (hn:(m.map (·.1)).Nodup) {id:Nat} {xs:List α} (h:(id,xs)∈m):prow m id=xs:=by
 have hk:∀ (l:List (Nat×List α)),(l.map (·.1)).Nodup→(id,xs)∈l→l.find? (fun p=>p.1 == id)=some (id,xs):=by
  intro l
  induction l with
  | nil=>intro _ h;cases h
  | cons p l ih=>
   intro hn h
   simp only [List.map_cons,List.nodup_cons] at hn
   rcases List.mem_cons.1 h with rfl | h
   ·simp
   ·have:p.1≠id:=fun e=>hn.1 (by rw [e];exact List.mem_map_of_mem (f:=(·.1)) h)
    rw [List.find?_cons_of_neg (by simpa using this)]
    exact ih hn.2 h
 unfold prow
 rw [hk m hn h]
theorem prow_lt {α:Type} {m:List (Nat×List α)} {id i:Nat} (h:i<(prow m id).length):(id,prow m id)∈m:=by
 refine prow_mem ?_
 cases hf:m.any (fun p=>p.1 == id) with
 | true=>rfl
 | false=>
  unfold prow at h
  have:m.find? (fun p=>p.1 == id)=none:=List.find?_eq_none.2 fun p hp e=>List.any_eq_false.1 hf p hp e
  rw [this] at h
  simp at h
theorem pset_keys {α:Type} (m:List (Nat×List α)) (id i:Nat) (d:α):(pset m id i d).map (·.1)=m.map (·.1):=by
 unfold pset
 rw [List.map_map]
 refine List.map_congr_left fun p _=>?_
 show (if p.1=id then (p.1,p.2.set i d) else p).1=p.1
 split<;>rfl
theorem unr_size:∀ t:Ty,t.unr.size=t.size
 | .raws _=>rfl
 | .st t=>unr_size t
 | .prod a b=>by simp only [Ty.unr,Ty.size,unr_size a,unr_size b]
 | .slice _=>rfl
 | .bool | .int _ | .str | .unit | .array _ _ | .ptr _ | .map _ _ | .fn _ _ | .it _=>rfl
theorem unr_shape:∀ (t:Ty) {v:Value},VShape t v→VShape t.unr v
 | .raws _,_,h=>h
 | .st t,_,⟨cs,h1,h2⟩=>⟨cs,h1,h2.trans (unr_size t).symm⟩
 | .prod _ _,_,h=>h.elim
 | .slice _,_,h=>h
 | .bool,_,h=>h
 | .int _,_,h=>h
 | .str,_,h=>h
 | .unit,_,h=>h
 | .array _ _,_,h=>h
 | .ptr _,_,h=>h
 | .map _ _,_,h=>h
 | .fn _ _,_,h=>h
 | .it _,_,h=>h
theorem unr_args:∀ (t:Ty) {vs:List Value},ArgShape t vs→ArgShape t.unr vs
 | .prod a b,_::_,h=>⟨unr_shape a h.1,unr_args b h.2⟩
 | .prod _ _,[],h=>h.elim
 | .unit,_,h=>h
 | .raws _,_,⟨v,h1,h2⟩=>⟨v,h1,h2⟩
 | .st t,_,⟨v,h1,h2⟩=>⟨v,h1,unr_shape (.st t) h2⟩
 | .slice _,_,⟨v,h1,h2⟩=>⟨v,h1,h2⟩
 | .bool,_,h=>h
 | .int _,_,h=>h
 | .str,_,h=>h
 | .array _ _,_,h=>h
 | .ptr _,_,h=>h
 | .map _ _,_,h=>h
 | .fn _ _,_,h=>h
 | .it _,_,h=>h
theorem deref_ok {P:Program} {e:Ty} {m:List (Nat×List e.Den)} {F F':Nat→Prop} {w:World} (hF:∀ r,F r→F' r) (hm:∀ id xs,(id,xs)∈m→F' id∧PRow P e F w id xs):∀ (t:Ty) {cs:List Value} {x:t.Den},
  RC P t F w cs x→RawOk e m t x→RC P t.unr F' w cs (deref e m t x):=by
 intro t
 induction t with
 | raws e' _=>
  intro cs x h hr
  obtain ⟨he,hk,hl⟩:=hr
  subst he
  obtain ⟨hF1,cs',T,lo,hi,p1,p2,p3,p4⟩:=hm _ _ (prow_mem hk)
  have hlen:(((prow m x.1).drop x.2.1).take x.2.2).length=x.2.2:=by simp;omega
  have hd:deref e' m (.raws e') x=((prow m x.1).drop x.2.1).take x.2.2:=by
   simp only [deref]
   exact dif_pos rfl
  rw [hd]
  generalize hz:((prow m x.1).drop x.2.1).take x.2.2=zs at hlen
  rcases h with ⟨rfl,h0⟩ | ⟨o,c,rfl,h1,h2,h3⟩
  ·have:zs=[]:=List.length_eq_zero_iff.1 (by rw [hlen,h0])
   subst this
   exact ⟨none,0,rfl,Nat.le_refl _,by decide,fun _=>rfl,fun p hp=>by cases hp⟩
  ·refine ⟨some ⟨x.1,o,none⟩,c,by rw [hlen],by rw [hlen];exact h1,h2,(by simp),fun p hp hc=>?_⟩
   cases hp
   refine ⟨hF1,rfl,fun i hi=>?_⟩
   have hi':x.2.1+i<(prow m x.1).length:=by omega
   obtain ⟨ds,d1,d2⟩:=p4 (x.2.1+i) hi'
   refine ⟨ds,⟨hF1,rfl,fun j hj=>?_⟩,?_⟩
   ·have:=d1 j hj
    rw [h3 hc]
    simp only [World.cell?,p1]
    rw [←this,Nat.zero_add,Nat.add_mul]
    rfl
   ·have:zs[i]=(prow m x.1)[x.2.1+i]:=by
     subst hz
     simp
    rw [this]
    exact RC_mono _ hF (Ext.refl _ _) d2
 | st t ih=>intro cs x h hr;exact ih h hr
 | prod a b iha ihb=>
  intro cs x h hr
  obtain ⟨c,d,rfl,h1,h2⟩:=h
  exact ⟨c,d,rfl,iha h1 hr.1,ihb h2 hr.2⟩
 | slice t ih=>
  intro cs xs h hr
  obtain ⟨a,cap,rfl,h1,h2,h3,h4⟩:=h
  have hlen:(List.map (deref e m t) xs).length=List.length xs:=List.length_map _
  show RC P (.slice t.unr) F' w _ (List.map (deref e m t) xs)
  refine ⟨a,cap,by rw [hlen],by rw [hlen];exact h1,h2,h3,fun p hp hc=>?_⟩
  obtain ⟨k1,k2,k3⟩:=h4 p hp hc
  refine ⟨hF _ k1,k2,fun i hi=>?_⟩
  have hi':i<List.length xs:=by rw [hlen] at hi;exact hi
  obtain ⟨ds,m1,m2⟩:=k3 i hi'
  refine ⟨ds,by rw [unr_size];exact m1.mono hF (Ext.refl _ _),?_⟩
  have:(List.map (deref e m t) xs)[i]=deref e m t xs[i]:=by simp
  rw [this]
  exact ih m2 (hr _ (List.getElem_mem _))
 | bool=>intro cs x h _;exact h
 | int k=>intro cs x h _;exact h
 | str=>intro cs x h _;exact h
 | unit=>intro cs x h _;exact h
 | array n t _=>intro cs x h _;exact RC_mono (.array n t) hF (Ext.refl _ _) h
 | ptr t _=>intro cs x h _;exact RC_mono (.ptr t) hF (Ext.refl _ _) h
 | map k v _ _=>intro cs x h _;exact RC_mono (.map k v) hF (Ext.refl _ _) h
 | fn a b _ _=>intro cs x h _;exact RC_mono (.fn a b) hF (Ext.refl _ _) h
 | it a _=>intro cs x h _;exact RC_mono (.it a) hF (Ext.refl _ _) h
section
variable {C:Ctx} {s:AState} {a:Act} {w:World} {κ:Nat→KB} {F:Nat→Prop}
theorem RelK.frzPool (h:RelK C s a w κ F):RelK C (s.setB POOLN ⟨(s.blk POOLN).gen,.dead⟩) a w κ (fun r=>F r∨PId s.blk r):=by
  have hl:Later s.blk κ (fun i=>if i=POOLN then (⟨(s.blk POOLN).gen,.dead⟩:ABlk) else s.blk i) κ:=later_same rfl (fun h=>by cases h) (fun h=>by cases h) (fun h=>by cases h) (fun h=>by cases h)
  have hF:∀ r,F r→F r∨PId s.blk r:=fun r hr=>.inl hr
  have hblk:∀ b,b≠POOLN→(s.setB POOLN ⟨(s.blk POOLN).gen,.dead⟩).blk b=s.blk b:=fun b hb=>by simp [AState.setB,hb]
  have hp:(s.setB POOLN ⟨(s.blk POOLN).gen,.dead⟩).blk POOLN=⟨(s.blk POOLN).gen,.dead⟩:=by simp [AState.setB]
  have hown:∀ b,((s.setB POOLN ⟨(s.blk POOLN).gen,.dead⟩).blk b).body.owned (κ b)=true→(s.blk b).body.owned (κ b)=true:=fun b hb=>by
    by_cases e:b=POOLN
    · subst e;rw [hp] at hb;cases hb
    · rwa [hblk b e] at hb
  exact { h with
    tsz:=h.tsz,dfr:=h.dfr
    slots:=fun i=>RA.later hl hF (Ext.refl _ _) (h.slots i)
    blks:=fun b=>by
      by_cases e:b=POOLN
      · subst e
        unfold HB
        rw [hp]
        trivial
      · exact HB.other (h.blks b) hl hF (Ext.refl _ _) (by rw [hblk b e]) rfl fun _=>rfl
    own:=fun b hb=>by
      obtain ⟨h1,h2,h3⟩:=h.own b (hown b hb)
      exact ⟨h1,fun k=>k.elim h2 fun k=>(h.pool.pid k).2.2.2.2 b (hown b hb) rfl,h3⟩
    inj:=fun b b' hb hb'=>h.inj b b' (hown b hb) (hown b' hb')
    fsz:=fun r hr=>hr.elim (h.fsz r) fun k=>(h.pool.pid k).2.1
    flo:=fun r hr=>hr.elim (h.flo r) fun k=>.inr (h.pool.pid k).2.2.2.1
    fhi:=fun r hr=>.inl (h.fhi r hr)
    anch:=fun b r hr hc=>by
      by_cases e:b=POOLN
      · subst e;rw [hp] at hc;rcases hc with hc | hc<;>cases hc
      · rw [hblk b e] at hc;exact h.anch b r hr hc
    anA:=fun b k hk h0 ha=>by
      by_cases e:b=POOLN
      · subst e;rw [hp] at ha;cases ha
      · rw [hblk b e] at h0 ha ⊢;exact h.anA b k hk h0 ha
    pro:=fun l A L n st e=>by
      obtain ⟨h1,h2,Y,h3,h4,h5⟩:=h.pro l A L n st e
      have hY:∀ r,(F r∨PId s.blk r)→¬Y r:=fun r hr hy=>hr.elim (h3 r hy).2.1 fun k=>(h.pool.pid k).1 l A L n st e
      exact ⟨h1,h2,Y,fun r hr=>⟨(h3 r hr).1,fun k=>hY r k hr,(h3 r hr).2.2⟩,fun b hb=>h4 b (hown b hb),h2.stabAt h5 hF (fun _ _=>rfl) (Nat.le_refl _) (Calm.refl _) (fun r hr=>hr.elim (h.fsz r) fun k=>(h.pool.pid k).2.1) hY⟩
    pool:=fun e m hm=>by rw [hp] at hm;cases hm
    glob:=h.glob.mono hF (Ext.refl _ _) }
theorem RelK.padd (h:RelK C s a w κ F) {e:Ty} {m:List (Nat×List e.Den)} (hb:(s.blk POOLN).body=.pool e m∨((s.blk POOLN).body=.dead∧m=[])) {id:Nat} {xs:List e.Den} (hno:∀ l A L n st,s.slot TRS≠.tr l A L n st)
    (h1:id<w.heap.size) (h2:¬F id) (h3:¬C.K0 id) (h4:∀ b,(s.blk b).body.owned (κ b)=true→(κ b).blk≠id) (h5:id ∉ m.map (·.1)) (h6:PRow C.P e F w id xs) :
    RelK C (s.setB POOLN ⟨(s.blk POOLN).gen,.pool e ((id,xs)::m)⟩) a w κ F:=by
  have hbk:(s.blk POOLN).body.isCells=false∧(s.blk POOLN).body.isArr=false∧(s.blk POOLN).body.isMap=false∧(s.blk POOLN).body.isIt=false∧∀ k,(s.blk POOLN).body.owned k=false:=by
    rcases hb with k | ⟨k,_⟩<;>rw [k]<;>exact ⟨rfl,rfl,rfl,rfl,fun _=>rfl⟩
  have hl:Later s.blk κ (fun i=>if i=POOLN then (⟨(s.blk POOLN).gen,.pool e ((id,xs)::m)⟩:ABlk) else s.blk i) κ:=later_same rfl (fun h=>by cases h) (fun h=>by cases h) (fun h=>by cases h) (fun h=>by cases h)
  have hblk:∀ b,b≠POOLN→(s.setB POOLN ⟨(s.blk POOLN).gen,.pool e ((id,xs)::m)⟩).blk b=s.blk b:=fun b hb=>by simp [AState.setB,hb]
  have hp:(s.setB POOLN ⟨(s.blk POOLN).gen,.pool e ((id,xs)::m)⟩).blk POOLN=⟨(s.blk POOLN).gen,.pool e ((id,xs)::m)⟩:=by simp [AState.setB]
  have hown:∀ b,((s.setB POOLN ⟨(s.blk POOLN).gen,.pool e ((id,xs)::m)⟩).blk b).body.owned (κ b)=true→(s.blk b).body.owned (κ b)=true:=fun b hb=>by
    by_cases e:b=POOLN
    · subst e;rw [hp] at hb;cases hb
    · rwa [hblk b e] at hb
  exact { h with
    tsz:=h.tsz,dfr:=h.dfr
    slots:=fun i=>RA.later hl (fun _ h=>h) (Ext.refl _ _) (h.slots i)
    blks:=fun b=>by
      by_cases e:b=POOLN
      · subst e
        unfold HB
        rw [hp]
        trivial
      · exact HB.other (h.blks b) hl (fun _ h=>h) (Ext.refl _ _) (by rw [hblk b e]) rfl fun _=>rfl
    own:=fun b hb=>h.own b (hown b hb)
    inj:=fun b b' hb hb'=>h.inj b b' (hown b hb) (hown b' hb')
    anch:=fun b r hr hc=>by
      by_cases e:b=POOLN
      · subst e;rw [hp] at hc;rcases hc with hc | hc<;>cases hc
      · rw [hblk b e] at hc;exact h.anch b r hr hc
    anA:=fun b k hk h0 ha=>by
      by_cases e:b=POOLN
      · subst e;rw [hp] at ha;cases ha
      · rw [hblk b e] at h0 ha ⊢;exact h.anA b k hk h0 ha
    pro:=fun l A L n st e=>(hno l A L n st e).elim
    pool:=fun e' m' hm=>by
      rw [hp] at hm
      cases hm
      have old:(m.map (·.1)).Nodup∧∀ id' xs',(id',xs')∈m→(∀ l A L n st,s.slot TRS≠.tr l A L n st)∧id'<w.heap.size∧¬F id'∧¬C.K0 id'∧(∀ b,(s.blk b).body.owned (κ b)=true→(κ b).blk≠id')∧PRow C.P e F w id' xs':=by
        rcases hb with k | ⟨_,rfl⟩
        · exact h.pool e m k
        · exact ⟨List.nodup_nil,fun _ _ h=>(by cases h)⟩
      refine ⟨by simpa using ⟨by simpa using h5,old.1⟩,fun id' xs' hx=>?_⟩
      rcases List.mem_cons.1 hx with hx | hx
      · cases hx
        exact ⟨hno,h1,h2,h3,fun b hb=>h4 b (hown b hb),h6⟩
      · obtain ⟨k0,k1,k2,k3,k4,k5⟩:=old.2 id' xs' hx
        exact ⟨k0,k1,k2,k3,fun b hb=>k4 b (hown b hb),k5⟩ }
theorem RelK.pput (h:RelK C s a w κ F) {k:IntKind} {m:List (Nat×List Int)} (hb:(s.blk POOLN).body=.pool (.int k) m) {id i:Nat} {d:Int} (hi:i<(prow m id).length) (hd:InR k d) :
    ∃ w',(storeCells ⟨id,i,none⟩ [.int k d]).run C.P w=.ok () w'∧RelK C (s.setB POOLN ⟨(s.blk POOLN).gen,.pool (.int k) (pset m id i d)⟩) a w' κ F:=by
  have hmem:=prow_lt hi
  obtain ⟨hn,hall⟩:=h.pool (.int k) m hb
  obtain ⟨q0,q1,q2,q3,q4,cs,T,lo,hi',c1,c2,c3,c4⟩:=hall _ _ hmem
  have hsz1:Ty.size (.int k)=1:=rfl
  have hsz2:i<cs.size:=by rw [hsz1] at c2;omega
  have hc:w.cell? ⟨id,i,none⟩=some cs[i]:=by simp [World.cell?,c1,hsz2]
  have hf:w.frozen? ⟨id,i,none⟩=false:=by
    simp only [World.frozen?,c1,Bool.and_eq_false_iff,decide_eq_false_iff_not]
    rw [hsz1] at c3
    omega
  refine ⟨w.setCell ⟨id,i,none⟩ (.int k d),?_,?_⟩
  · simp only [storeCells,Sem.run_bind,add_addr,run_store C.P w _ (.int k d) _ rfl,Nat.add_zero,hc,hf,Bool.false_eq_true,if_false,Result.andThen_ok]
    rfl
  have hother:∀ r,r≠id→(w.setCell ⟨id,i,none⟩ (.int k d)).heap[r]?=w.heap[r]?:=fun r hr=>Below.heap_setCell _ _ _ _ (by simpa using hr)
  have hself:(w.setCell ⟨id,i,none⟩ (.int k d)).heap[id]?=some (.cells (cs.setIfInBounds i (.int k d)) T (lo,hi')):=by
    simp [World.setCell,Array.getElem?_modify,c1]
  have hws:(w.setCell ⟨id,i,none⟩ (.int k d)).heap.size=w.heap.size:=by simp
  have he:Ext F w (w.setCell ⟨id,i,none⟩ (.int k d)):=⟨by omega,fun r hr=>hother r fun e=>q2 (e ▸ hr)⟩
  have hcalm:Calm w (w.setCell ⟨id,i,none⟩ (.int k d)):=⟨rfl,rfl,rfl⟩
  generalize w.setCell ⟨id,i,none⟩ (.int k d)=w' at hother hself hws he hcalm
  have hl:Later s.blk κ (fun j=>if j=POOLN then (⟨(s.blk POOLN).gen,.pool (.int k) (pset m id i d)⟩:ABlk) else s.blk j) κ:=later_same rfl (fun h=>by cases h) (fun h=>by cases h) (fun h=>by cases h) (fun h=>by cases h)
  have hblk:∀ b,b≠POOLN→(s.setB POOLN ⟨(s.blk POOLN).gen,.pool (.int k) (pset m id i d)⟩).blk b=s.blk b:=fun b hb=>by simp [AState.setB,hb]
  have hp:(s.setB POOLN ⟨(s.blk POOLN).gen,.pool (.int k) (pset m id i d)⟩).blk POOLN=⟨(s.blk POOLN).gen,.pool (.int k) (pset m id i d)⟩:=by simp [AState.setB]
  have hown:∀ b,((s.setB POOLN ⟨(s.blk POOLN).gen,.pool (.int k) (pset m id i d)⟩).blk b).body.owned (κ b)=true→(s.blk b).body.owned (κ b)=true:=fun b hb=>by
    by_cases e:b=POOLN
    · subst e;rw [hp] at hb;cases hb
    · rwa [hblk b e] at hb
  exact { h with
    tsz:=h.tsz,dfr:=h.dfr
    slots:=fun i=>RA.later hl (fun _ h=>h) he (h.slots i)
    blks:=fun b=>by
      by_cases e:b=POOLN
      · subst e
        unfold HB
        rw [hp]
        trivial
      · exact HB.other (h.blks b) hl (fun _ h=>h) he (by rw [hblk b e]) rfl fun ho=>hother _ (q4 b ho)
    own:=fun b hb=>by
      obtain ⟨h1,h2,h3⟩:=h.own b (hown b hb)
      exact ⟨by omega,h2,h3⟩
    inj:=fun b b' hb hb'=>h.inj b b' (hown b hb) (hown b' hb')
    fsz:=fun r hr=>by rw [hws];exact h.fsz r hr
    keep:=fun r hr=>(hother r fun e=>q3 (e ▸ hr)).trans (h.keep r hr)
    size:=by rw [hws];exact h.size
    calm:=h.calm.trans hcalm
    anch:=fun b r hr hc=>by
      by_cases e:b=POOLN
      · subst e;rw [hp] at hc;rcases hc with hc | hc<;>cases hc
      · rw [hblk b e] at hc;exact h.anch b r hr hc
    anA:=fun b k' hk h0 ha=>by
      by_cases e:b=POOLN
      · subst e;rw [hp] at ha;cases ha
      · rw [hblk b e] at h0 ha ⊢;exact h.anA b k' hk h0 ha
    pro:=fun l A L n st e=>(q0 l A L n st e).elim
    pool:=fun e m' hm=>by
      rw [hp] at hm
      cases hm
      refine ⟨by rw [pset_keys];exact hn,fun id2 xs2 hx=>?_⟩
      obtain ⟨p,hp1,hp2⟩:=List.mem_map.1 hx
      obtain ⟨pid,pxs⟩:=p
      obtain ⟨u0,u1,u2,u3,u4,u5⟩:=hall pid pxs hp1
      by_cases e:pid=id
      · subst e
        simp only [if_true,Prod.mk.injEq] at hp2
        obtain ⟨rfl,rfl⟩:=hp2
        have hpx:=prow_of hn hp1
        refine ⟨u0,by omega,u2,u3,fun b hb=>u4 b (hown b hb),cs.setIfInBounds i (.int k d),T,lo,hi',hself,?_,?_,fun j hj=>?_⟩
        · rw [←hpx];simpa using c2
        · rw [←hpx];simpa using c3
        · have hj':j<List.length (prow m pid):=by rw [hpx];simpa using hj
          by_cases hij:j=i
          · subst hij
            refine ⟨[.int k d],fun j' hj'=>?_,?_⟩
            · have:j'=0:=by simpa using hj'
              subst this
              rw [hsz1]
              simp [hsz2]
            · have:(List.set pxs j d)[j]=d:=by simp
              rw [this]
              exact ⟨rfl,hd⟩
          · obtain ⟨ds,d1,d2⟩:=c4 j hj'
            refine ⟨ds,fun j' hj'=>?_,?_⟩
            · have hdl:=RC_len _ d2
              have h0:j'=0:=by rw [hsz1] at hdl;omega
              rw [Array.getElem?_setIfInBounds_ne (by rw [hsz1];omega)]
              exact d1 j' hj'
            · have e1:(List.set pxs i d)[j]=(prow m pid)[j]:=by
                rw [List.getElem_set_ne (Ne.symm hij)]
                simp only [hpx]
              rw [e1]
              exact RC_pure (.int k) rfl d2
      · simp only [if_neg e,Prod.mk.injEq] at hp2
        obtain ⟨rfl,rfl⟩:=hp2
        exact ⟨u0,by omega,u2,u3,fun b hb=>u4 b (hown b hb),u5.mono (fun _ h=>h) he (hother _ e)⟩
    glob:=h.glob.mono (fun _ h=>h) he }
end
section
variable {C:Ctx} {T:Nat→Ty} {Φ:Nat→Option FC} {o:Oper} {s:AState} {res:OpRes}
theorem ok_pload (hT:TabOk C.P T) {ty:TypeId} {x:Operand} (hdst:∀ i,o.dst=some i→i<C.nt) (ho:o.op=.load ty x) {r:Rd (Option OpRes)} (hp:plV C.ft T (opAV C.ft s.slot) o=some r) (h:r.run s.blk=some res):OpOk C o s res:=by
 simp only [plV,ho] at hp
 split at hp
 ·rename_i ox k id i hu
  cases hp
  simp only [Rd.run_get,Rd.run_ret] at h
  split at h
  ·rename_i m hm
   split at h
   ·rename_i ht
    cases h
    refine OpOk.pure (by rw [ho];intro c hc;cases hc) hdst fun a w κ F hr hob hc=>?_
    have hx:a.eval x=.pointer (some ⟨id,i*1,none⟩):=use_op hr x hu hob
    rw [Nat.mul_one] at hx
    have hb:=poolAs_some hm
    obtain ⟨q0,q1,q2,q3,q4,cs,T',lo,hi,c1,c2,c3,c4⟩:=(hr.pool _ m hb).2 _ _ (prow_lt hc)
    obtain ⟨ds,d1,d2⟩:=c4 i hc
    obtain ⟨rfl,hin⟩:=d2
    have hcell:w.cell? ⟨id,i,none⟩=some (.int k (prow m id)[i]):=by
     have:=d1 0 (by simp)
     simp only [World.cell?,c1]
     simpa [Ty.size] using this
    have hti:=hT.is ht (by simp)
    have e1:(prow m id).getD i (0:Int)=(prow m id)[i]:=by simp [List.getD_eq_getElem?_getD,hc]
    have hrd:Reads w ⟨id,i,none⟩ [.int k (prow m id)[i]]:=⟨fun _=>rfl,fun j hj=>by
     have:j=0:=by simpa using hj
     subst this
     exact hcell⟩
    obtain ⟨r,r1,r2⟩:=loadVar_ok (F:=F) hti hrd ⟨rfl,hin⟩
    refine ⟨r,by simp [execOp,ho,hx,Instr.loadAt,Instr.sureAddr,r1],?_⟩
    rw [e1]
    exact r2
   ·cases h
  ·cases h
 ·cases hp
theorem ok_pstore (hT:TabOk C.P T) {ty:TypeId} {x y:Operand} (hdst:o.dst=none) (ho:o.op=.store ty x y) {r:Rd (Option OpRes)} (hp:plV C.ft T (opAV C.ft s.slot) o=some r) (h:r.run s.blk=some res):OpOk C o s res:=by
 simp only [plV,ho] at hp
 split at hp
 ·rename_i ox k id i hu
  split at hp
  ·rename_i oy k' d hv
   cases hp
   simp only [Rd.run_get,Rd.run_ret] at h
   split at h
   ·rename_i m hm
    split at h
    ·rename_i ht
     obtain ⟨ht,rfl⟩:=ht
     cases h
     intro a w κ F Q hr hob hc
     have hx:a.eval x=.pointer (some ⟨id,i*1,none⟩):=use_op hr x hu hob.1
     have hy:=RV_int.1 (use_op hr y hv hob.2)
     have hd:∀ c,o.op≠.defer c:=by rw [ho];intro c hc;cases hc
     obtain ⟨w',r1,r2⟩:=hr.pput (poolAs_some hm) hc hy.2
     have hti:=hT.is ht (by simp)
     refine oper_skip (w':=w') hd ?_ ?_
     ·have:=storeVar_run (p:=⟨id,i,none⟩) hti (show (Value.int k' d).cells.size=Ty.size (.int k') from rfl) r1
      simp [execOp,ho,hx,hy.1,Instr.storeAt,Instr.sureAddr,this]
     ·rw [hdst]
      exact ⟨κ,F,r2⟩
    ·cases h
   ·cases h
  ·cases hp
 ·cases hp
theorem ok_pindex (hT:TabOk C.P T) {ty:TypeId} {x i:Operand} (hdst:∀ i,o.dst=some i→i<C.nt) (ho:o.op=.indexAddr ty x i) {r:Rd (Option OpRes)} (hp:plV C.ft T (opAV C.ft s.slot) o=some r) (h:r.run s.blk=some res):OpOk C o s res:=by
 simp only [plV,ho] at hp
 split at hp
 ·rename_i ox e q hu
  split at hp
  ·rename_i k n hi
   cases hp
   simp only [Rd.run_ret] at h
   split at h
   ·rename_i ht
    cases h
    refine OpOk.pure (by rw [ho];intro c hc;cases hc) hdst fun a w κ F hr hob hc=>?_
    have hx:=((RV_leaf rfl).1 (use_op hr x hu hob.1)).2
    have h2:=int?_ok (use_op hr i rfl hob.2) hi
    rcases hx with ⟨_,h0⟩ | ⟨o',c,e1,h1,h2',h3⟩
    ·have:=hc.2;rw [h0] at this;have:=hc.1;omega
    ·have e1:=(List.cons.inj e1).1
     have hti:=(hT.is ht (by simp)).rawSl
     have hpos:0<c:=by have:=hc.1;have:=hc.2;omega
     refine ⟨.pointer (some ⟨q.1,o'+n.toNat*e.size,none⟩),by simp [execOp,ho,e1,h2.1,indexAt_run hti (p:=⟨q.1,o',none⟩) rfl hc.1 hc.2],?_⟩
     show Value.pointer _=Value.pointer _
     rw [h3 hpos,Nat.add_mul]
   ·cases h
  ·cases hp
 ·cases hp
theorem ok_pslice (hT:TabOk C.P T) {ty:TypeId} {x:Operand} {lo hi mx:Option Operand} (hdst:∀ i,o.dst=some i→i<C.nt) (ho:o.op=.slice ty x lo hi mx) {r:Rd (Option OpRes)} (hp:plV C.ft T (opAV C.ft s.slot) o=some r) (h:r.run s.blk=some res):OpOk C o s res:=by
 simp only [plV,ho] at hp
 split at hp
 ·rename_i ox e q hu
  split at hp
  ·rename_i ol l oh hh hlo hhi
   cases hp
   simp only [Rd.run_ret] at h
   split at h
   ·rename_i ht
    cases h
    refine OpOk.pure (by rw [ho];intro c hc;cases hc) hdst fun a w κ F hr hob hc=>?_
    have b1:(lo.map a.eval=none∧l=none)∨∃ k m,lo.map a.eval=some (.int k m)∧l=some m:=by
     rcases boundV_ok hr hlo hob.2.1 with ⟨rfl,rfl⟩ | ⟨y,k,m,rfl,rfl,e⟩
     ·exact .inl ⟨rfl,rfl⟩
     ·exact .inr ⟨k,m,by simp [e],rfl⟩
    have b2:(hi.map a.eval=none∧hh=none)∨∃ k m,hi.map a.eval=some (.int k m)∧hh=some m:=by
     rcases boundV_ok hr hhi hob.2.2 with ⟨rfl,rfl⟩ | ⟨y,k,m,rfl,rfl,e⟩
     ·exact .inl ⟨rfl,rfl⟩
     ·exact .inr ⟨k,m,by simp [e],rfl⟩
    have hx:=((RV_leaf rfl).1 (use_op hr x hu hob.1)).2
    have hti:=(hT.is ht (by simp)).rawSl
    obtain ⟨j,hj,hj2,hj3⟩:=hti.sl
    have run:∀ (p:Option Addr) (n cap:Nat),a.eval x=.slice p n cap→n≤cap→0≤loB l∧loB l≤hiB n hh∧hiB n hh≤(cap:Int)→
      (execOp a.eval o).run C.P w=.ok (.value (.slice (if cap=(loB l).toNat then p else p.map (·.add ((loB l).toNat*e.size))) ((hiB n hh).toNat - (loB l).toNat) (cap - (loB l).toNat))) w:=by
     intro p n cap hv hn hc
     have:=bounds_run (P:=C.P) (w:=w) (isS:=true) b1 b2 hc.1 hc.2.1 hc.2.2 hn
     simp [execOp,ho,hv,Instr.sliceAt,Instr.slice,run_underlying' hj,this,hj2.size]
    rcases hx with ⟨e1,h0⟩ | ⟨o',c,e1,h1,h2',h3⟩
    ·have e1:=(List.cons.inj e1).1
     have hz:0≤loB l∧loB l≤hiB 0 hh∧hiB 0 hh≤((0:Nat):Int):=by rw [h0] at hc;exact hc
     have hl0:(loB l).toNat=0:=by omega
     have hh0:(hiB 0 hh).toNat=0:=by omega
     refine ⟨_,run none 0 0 e1 (Nat.le_refl _) hz,(RV_leaf rfl).2 ⟨rfl,.inl ⟨?_,?_⟩⟩⟩
     ·rw [hl0,hh0];simp
     ·show (hiB q.2.2 hh).toNat - (loB l).toNat=0
      rw [h0,hh0];omega
    ·have e1:=(List.cons.inj e1).1
     refine ⟨_,run _ _ _ e1 h1 ⟨hc.1,hc.2.1,by have:=hc.2.2;omega⟩,(RV_leaf rfl).2 ⟨rfl,.inr ?_⟩⟩
     by_cases hcl:c=(loB l).toNat
     ·rw [if_pos hcl]
      exact ⟨o',_,rfl,by show (hiB q.2.2 hh).toNat - (loB l).toNat≤_;have:=hc.2.2;omega,by omega,fun h=>by omega⟩
     ·rw [if_neg hcl]
      refine ⟨o'+(loB l).toNat*e.size,c - (loB l).toNat,?_,by show (hiB q.2.2 hh).toNat - (loB l).toNat≤_;have:=hc.2.2;omega,by omega,fun h=>?_⟩
      ·simp [add_addr]
      ·show o'+(loB l).toNat*e.size=(q.2.1+(loB l).toNat)*e.size
       rw [h3 (by omega),Nat.add_mul]
   ·cases h
  ·cases hp
 ·cases hp
theorem ok_plen (hT:TabOk C.P T) {args:Array Operand} {tys:Array TypeId} (hdst:∀ i,o.dst=some i→i<C.nt) (ho:o.op=.call { callee:=.builtin .len,args:=args,argTypes:=tys }) {r:Rd (Option OpRes)} (hp:plV C.ft T (opAV C.ft s.slot) o=some r) (h:r.run s.blk=some res):OpOk C o s res:=by
 obtain ⟨args⟩:=args
 obtain ⟨tys⟩:=tys
 simp only [plV,ho] at hp
 split at hp
 ·rename_i x t
  split at hp
  ·rename_i ox e q hu
   cases hp
   simp only [Rd.run_ret] at h
   split at h
   ·rename_i hty
    cases h
    refine OpOk.pure (by rw [ho];intro c hc;cases hc) hdst fun a w κ F hr hob hc=>?_
    obtain ⟨i,hi,_⟩:=(hT.is hty (by simp)).rawSl.sl
    have slc:∀ a' m cap,a.eval x=.slice a' m cap→m<2 ^ 63→(Builtin.len_ #[t] o.type #[a.eval x]).run C.P w=.ok (.int .i64 m) w∧InR .i64 m:=by
     intro a' m cap hu hlt
     rw [hu]
     exact ⟨by simp [Builtin.len_,run_underlying' hi,goInt],InR_len hlt⟩
    have hx:=((RV_leaf rfl).1 (use_op hr x hu hob)).2
    rcases hx with ⟨e1,h0⟩ | ⟨o',c,e1,h1,h2',h3⟩
    ·obtain ⟨k1,k2⟩:=slc _ _ _ (List.cons.inj e1).1 (by decide)
     refine ⟨_,run_call_builtin ho ?_,RV_int.2 ⟨rfl,by rw [h0];exact k2⟩⟩
     rw [h0]
     have k1:(Builtin.len_ #[t] o.type #[a.eval x]).run C.P w=.ok (.int .i64 0) w:=k1
     simp [builtin,k1]
    ·obtain ⟨k1,k2⟩:=slc _ _ _ (List.cons.inj e1).1 (by omega)
     refine ⟨_,run_call_builtin ho ?_,RV_int.2 ⟨rfl,k2⟩⟩
     simp [builtin,k1]
   ·cases h
  ·cases hp
 ·cases hp
theorem ok_pcall {k:FuncId} {args:Array Operand} {tys:Array TypeId} (hdst:∀ i,o.dst=some i→i<C.nt) (ho:o.op=.call { callee:=.value (.func k),args:=args,argTypes:=tys }) {r:Rd (Option OpRes)} (hp:plV C.ft T (opAV C.ft s.slot) o=some r) (h:r.run s.blk=some res):OpOk C o s res:=by
 simp only [plV,ho,Option.map_eq_some_iff] at hp
 obtain ⟨c,hc,rfl⟩:=hp
 simp only [callPV,Rd.run_bind] at h
 split at h
 rotate_left
 ·simp only [Rd.run_bindO,Option.bind_eq_some_iff,Rd.run_bind,Rd.run_ret,Option.some.injEq] at h
  obtain ⟨⟨x,l⟩,hx,rfl⟩:=h
  intro a w κ F Q hr hob hpre
  refine call_ok hr (hr.ftok.pcs k c hc).1 hdst ho hob hx hpre fun y w' hy v hrel=>?_
  have hy:y=c.g x:=hy
  subst hy
  have e:∀ (r:Rd (List (Nat×ABlk))),r=(if c.tr.pure then .ret [] else frzB l)→s.setBs (r.run s.blk)=(if c.tr.pure then s else s.frz l):=by
   intro r hr
   subst hr
   split
   ·rfl
   ·exact setBs_frz s l
  simp only [AState.app]
  rw [e _ rfl]
  exact hrel
 rename_i x fl hx
 simp only [Rd.run_get] at h
 split at h
 ·rename_i m hm
  simp only [Rd.run_bind,Rd.run_ret,Option.some.injEq] at h
  subst h
  have hb:=poolAs_some hm
  intro a w κ F Q hr hob hpre
  obtain ⟨hf,hfr⟩:=hr.ftok.pcs k c hc
  have hd:∀ c,o.op≠.defer c:=by rw [ho];intro c hc;cases hc
  obtain ⟨args⟩:=args
  have hrun:(execOp a.eval o).run C.P w=.ok (.enter k (args.map a.eval).toArray) w:=by
   simp only [execOp,ho,Sem.run_bind,resolve,Act.eval,Deferred.ofValue,Sem.run_pure,Result.andThen_ok,invoke]
   have:=hf.enter (args.map a.eval).toArray w
   simpa [Act.eval] using this
  obtain ⟨F1,f1,hr1,f2⟩:=RelK.frzL (asArgs_closed c.tsR hx) hr
  have hargs:RArgs C.P c.tsR F1 w (args.map a.eval) x:=by
   refine asArgs_ok hr.blks f1 c.tsR hx f2 (by simp) fun i hi hi'=>?_
   simp only [List.getElem_map]
   have hi2:i<args.length:=by simpa using hi'
   have h1:=usesObL_spec hob i (by simpa using hi2)
   have e1:(args.map (opAV C.ft s.slot)).getD i .undef=opAV C.ft s.slot args[i]:=by simp [List.getD_eq_getElem?_getD,hi2]
   rw [show (List.map (opAV C.ft s.slot) (⟨args⟩:Array Operand).toList)=args.map (opAV C.ft s.slot) from rfl,e1] at h1
   exact use_ok (opAV_ok hr args[i]) h1
  have hb1:((s.frz fl).blk POOLN).body=.pool c.e m:=by
   simp only [AState.frz]
   split
   ·simp [fz,hb]
   ·exact hb
  have hpl:=hr1.pool c.e m hb1
  have hr2:=hr1.frzPool
  have hF2:∀ r,F1 r→F1 r∨PId (s.frz fl).blk r:=fun r h=>.inl h
  have hargs2:RArgs C.P c.tsR.unr (fun r=>F1 r∨PId (s.frz fl).blk r) w (args.map a.eval) (deref c.e m c.tsR x):=
   ⟨unr_args _ hargs.1,deref_ok hF2 (fun id xs hx=>⟨.inr ⟨c.e,m,xs,hb1,hx⟩,(hpl.2 id xs hx).2.2.2.2.2⟩) _ hargs.2 hpre.1⟩
  by_cases hpf:(c.tr.pure||c.fresh)=true
  ·have key:∀ v w',RRes C.P c.tr (Grow F w w') w' v (c.g (deref c.e m c.tsR x))→Below w.heap.size w w'→
     Rel C (s.app o.dst ⟨usesObL (args.map (opAV C.ft s.slot)),RawOk c.e m c.tsR x∧c.pre (deref c.e m c.tsR x),resV c.tr (c.g (deref c.e m c.tsR x)),[]⟩) (a.put o.dst v) w':=fun v w' hres hbl=>by
    exact ⟨κ,_,(hr.grow hbl).set hdst (resV_ok hres)⟩
   have fin:∀ (l:List (Nat×ABlk)),(if (c.tr.pure||c.fresh)=true then [] else l)=[]:=fun l=>if_pos hpf
   rw [fin]
   rw [Bool.or_eq_true] at hpf
   by_cases hpp:c.tr.pure=true
   ·refine oper_call hd hrun (hf.calls _ w _ _ hr2.fsz hr2.glob hargs2 hpre.2) fun e w' ⟨v,y,he,hy,hres,hbl⟩=>⟨v,he,?_⟩
    obtain rfl:y=_:=hy
    obtain ⟨vs,q1,q2⟩:=hres
    exact key v w' ⟨vs,q1,RArgs_pure hpp q2⟩ hbl
   ·refine oper_call hd hrun ((hfr (hpf.resolve_left hpp)).calls _ w _ _ hr2.fsz hr2.glob hargs2 hpre.2) fun e w' ⟨v,y,he,hy,hres,hbl⟩=>⟨v,he,?_⟩
    obtain rfl:y=_:=hy
    obtain ⟨vs,q1,q2⟩:=hres
    exact key v w' ⟨vs,q1,q2.1,RC_mono _ (fun r hr=>.inr hr) (Ext.refl _ _) q2.2⟩ hbl
  ·have e0:(if (c.tr.pure||c.fresh)=true then Rd.ret [] else frzB fl:Rd (List (Nat×ABlk)))=frzB fl:=if_neg hpf
   rw [e0,if_neg hpf]
   have hfg:(s.blk POOLN).gen=((s.frz fl).blk POOLN).gen:=by
    simp only [AState.frz]
    split
    ·simp [fz,hb]
    ·rfl
   have hset:s.setBs ((frzB fl).run s.blk++[(POOLN,⟨(s.blk POOLN).gen,.dead⟩)])=(s.frz fl).setB POOLN ⟨((s.frz fl).blk POOLN).gen,.dead⟩:=by
    rw [setBs_snoc,setBs_frz,hfg]
   refine oper_call hd hrun (hf.calls _ w _ _ hr2.fsz hr2.glob hargs2 hpre.2) fun e w' ⟨v,y,he,hy,hres,hbl⟩=>⟨v,he,?_⟩
   obtain rfl:y=_:=hy
   simp only [AState.app]
   rw [hset]
   exact ⟨κ,_,(hr2.grow hbl).set hdst (resV_ok hres)⟩
 ·cases h
theorem unsafeString_at {P:Program} {w:World} (pt it ty u T:TypeId) (hp:P.underlying pt=some (.pointer u)) (hu:P.underlying u=some (.int .u8)) (hT:P.underlying T=some (.int .u8)) (hc:P.cellsOf T=1) (g o cells:Nat) (hsh:w.shape? g=some (T,cells)) (l:List UInt8) (h0:l≠[])
  (hn:o+l.length≤cells) (h63:l.length≤9223372036854775807) (hcell:∀ j x,l[j]?=some x→w.cell? ((⟨g,o,none⟩:Addr).add j)=some (.int .u8 x.toNat)) :
  (Builtin.unsafeString_ #[pt,it] ty #[.pointer (some ⟨g,o,none⟩),.int .i64 l.length]).run P w=.ok (.string ⟨l.toArray⟩) (w.freeze ⟨g,o,none⟩ l.length):=by
 have hl:l.length≠0:=by simpa using h0
 have hlb:=Lib.run_loadBytes (P:=P) w l ⟨g,o,none⟩ .empty hcell
 have hd:P.depth=(2*(P.types.size+Made.depth)+1)+1:=rfl
 have hsame:sameLayout P P.depth T u=true:=by
  rw [hd]
  simp [sameLayout,hT,hu]
 have hlies:liesAt P P.depth T (cells / P.cellsOf T) o u l.length=true:=by
  have h1:rowAt P (sameLayout P P.depth · u) P.depth T (cells / P.cellsOf T) o l.length=true:=by
   generalize hf:(sameLayout P P.depth · u)=fits
   have hs:fits T=true:=by rw [←hf];exact hsame
   rw [hd]
   simp only [rowAt,hc,Nat.one_ne_zero,if_false,Nat.div_one,Nat.mod_one,hs,Bool.and_true,Bool.or_eq_true]
   left
   simp
   omega
  have h2:liesAt P ((2*(P.types.size+Made.depth)+1)+1) T (cells / P.cellsOf T) o u l.length=true:=by
   simp only [liesAt,Bool.or_eq_true]
   exact .inl h1
  exact h2
 have h63':¬(9223372036854775807:Int)<(l.length:Int):=by omega
 have hdef:Builtin.unsafeString_ #[pt,it] ty #[.pointer (some ⟨g,o,none⟩),.int .i64 l.length]=
   (do
    let n ←asInt (.int .i64 l.length)
    if n < 0 then runtimePanic (.error "unsafe.String: len out of range")
    if n > IntKind.i64.max then unsupported (.unsafePointer "String: a length above the largest int")
    if n=0 then pure (.string .empty)
    else if ←variablesAt ⟨g,o,none⟩ (←elemOf pt) n.toNat then do
     let s ←loadBytes ⟨g,o,none⟩ .empty n.toNat
     freeze ⟨g,o,none⟩ n.toNat
     pure (.string s)
    else unsupported (.unsafePointer "String: not so many bytes at ptr")) := rfl
 rw [hdef]
 have hmax:IntKind.i64.max=9223372036854775807:=rfl
 have hneg:¬(l.length:Int)<0:=by omega
 simp [asInt,asIntOf,hmax,h63',hneg,hl,variablesAt,hsh,elemOf,run_underlying hp,hlies,hlb]
theorem TyIs.pt {P:Program} {k:IntKind} {id:TypeId} (h:TyIs P (.ptr (.int k)) id):∃ i,P.underlying id=some (.pointer i)∧TyIs P (.int k) i:=by
 unfold TyIs at h
 simp only [tyChk,Bool.and_eq_true] at h
 obtain ⟨_,h⟩:=h
 split at h
 ·rename_i i hu
  simp only [Bool.or_eq_true,Bool.and_eq_true,Bool.false_eq_true,false_or] at h
  exact ⟨i,hu,by unfold TyIs;simp only [tyChk,Bool.and_eq_true];exact h.1⟩
 ·cases h
theorem ok_psdt (hT:TabOk C.P T) {args:Array Operand} {tys:Array TypeId} (hdst:∀ i,o.dst=some i→i<C.nt) (ho:o.op=.call { callee:=.builtin .unsafeSliceData,args:=args,argTypes:=tys }) {r:Rd (Option OpRes)} (hp:plV C.ft T (opAV C.ft s.slot) o=some r) (h:r.run s.blk=some res):OpOk C o s res:=by
 obtain ⟨args⟩:=args
 simp only [plV,ho] at hp
 split at hp
 ·rename_i x
  split at hp
  ·rename_i ox b g hu
   cases hp
   simp only [Rd.run_get,Rd.run_ret] at h
   split at h
   ·rename_i e xs hb
    split at h
    ·rename_i hc
     obtain ⟨hg,ht⟩:=hc
     cases h
     obtain ⟨i,hi,_⟩:=(hT.is ht (by simp)).pt
     have hdf:∀ c,o.op≠.defer c:=by rw [ho];intro c hc;cases hc
     intro a w κ F Q hr hob _
     have hx:=use_op hr x hu hob
     have hv:=hx.2 hg.symm (by rw [hb];rfl)
     rw [hb] at hv
     have hB:=hr.blks b
     unfold HB at hB
     rw [hb] at hB
     have fin:∀ p w',(Builtin.unsafeSliceData_ tys o.type #[a.eval x]).run C.P w=.ok (.pointer p) w'→Below w.heap.size w w'→(0<xs.length→p=some ⟨(κ b).blk,(κ b).off,none⟩)→
       o.wpIn (rnd C.r) 0 C.P a w (fun a' w'=>Rel C (s.app o.dst ⟨ox,True,.sdt b g,[]⟩) a' w') Q:=fun p w' h1 h2 h3=>by
      refine oper_value (w':=w') (v:=.pointer p) hdf (run_call_builtin ho (by simp [builtin,h1])) ⟨κ,_,(hr.grow h2).set hdst ⟨⟨Nat.le_of_eq hg.symm,p,rfl⟩,fun _ _ hn=>?_⟩⟩
      rw [hb] at hn
      rw [h3 hn]
     cases hn:(κ b).isNil with
     | true=>
      have hxs:=hB.1 hn
      subst hxs
      simp only [KB.slice,hn,if_true] at hv
      exact fin none w (by rw [hv];exact Lib.run_unsafeSliceData_nil w _ _ _ _) (Below.refl _ _) (fun h=>by simp at h)
     | false=>
      obtain ⟨cs,T',c1,c2,c3,c4,c5⟩:=hB.2 hn
      simp only [KB.slice,hn,Bool.false_eq_true,if_false] at hv
      by_cases hcap:(κ b).cap=0
      ·have hsh:w.shape? (κ b).blk=some (T',cs.size):=by simp [World.shape?,c1]
       refine fin _ _ (by rw [hv,hcap];exact Lib.run_unsafeSliceData_zero w _ _ i hi _ _ _ hsh) ((Below.refl _ _).alloc (Nat.le_refl _) _) (fun h=>by omega)
      ·exact fin _ w (by rw [hv];exact Lib.run_unsafeSliceData_row w _ _ _ _ _ hcap) (Below.refl _ _) (fun _=>rfl)
    ·cases h
   ·cases h
  ·cases hp
 ·cases hp
theorem ok_pstr (hT:TabOk C.P T) {args:Array Operand} {tys:Array TypeId} (hdst:∀ i,o.dst=some i→i<C.nt) (ho:o.op=.call { callee:=.builtin .unsafeString,args:=args,argTypes:=tys }) {r:Rd (Option OpRes)} (hp:plV C.ft T (opAV C.ft s.slot) o=some r) (h:r.run s.blk=some res):OpOk C o s res:=by
 obtain ⟨args⟩:=args
 obtain ⟨tys⟩:=tys
 simp only [plV,ho] at hp
 split at hp
 ·rename_i x n pt it
  split at hp
  ·rename_i ox b g on m hu hn
   cases hp
   simp only [Rd.run_get,Rd.run_ret] at h
   split at h
   ·rename_i xs hb
    change List Int at xs
    split at h
    ·rename_i hc
     obtain ⟨hg,ht⟩:=hc
     cases h
     obtain ⟨u,hi,hui⟩:=(hT.is ht (by simp)).pt
     have hdf:∀ c,o.op≠.defer c:=by rw [ho];intro c hc;cases hc
     intro a w κ F Q hr hob hm
     change m=(List.length xs:Int) at hm
     obtain ⟨⟨_,p,hp⟩,hx2⟩:=use_op hr x hu hob.1
     have hnv:=(RV_int.1 (use_op hr n hn hob.2)).1
     have hB:=hr.blks b
     unfold HB at hB
     rw [hb] at hB
     have hbl:(bytesOf xs).length=List.length xs:=by simp [bytesOf]
     have hl:Later s.blk κ (fun i=>if i=b then (⟨(s.blk b).gen,.dead⟩:ABlk) else s.blk i) κ:=later_same rfl (fun h=>by cases h) (fun h=>by cases h) (fun h=>by cases h) (fun h=>by cases h)
     by_cases h0:xs=[]
     ·subst h0
      have hm:m=0:=hm
      subst hm
      have hrun:=Lib.run_unsafeString_none (P:=C.P) w pt it o.type p
      have hw:RelK C (s.setB b ⟨(s.blk b).gen,.dead⟩) a w κ F:=hr.weaken ⟨fun i=>.inl rfl,fun i=>by
       by_cases e:i=b
       ·subst e;right;simp [AState.setB]
       ·left;simp [AState.setB,e]⟩
      refine oper_value (w':=w) (v:=.string .empty) hdf (run_call_builtin ho (by simp [builtin,hp,hnv,hrun])) ⟨κ,F,hw.set hdst (RV_str.2 ⟨rfl,by simp [bytesOf]⟩)⟩
     ·have hpos:0<List.length xs:=List.length_pos_iff.2 h0
      have hnil:(κ b).isNil=false:=by
       cases hn:(κ b).isNil with
       | false=>rfl
       | true=>exact (h0 (hB.1 hn)).elim
      obtain ⟨cs,T',c1,c2,c3,c4,c5⟩:=hB.2 hnil
      have hpv:=hx2 hg.symm (by rw [hb];rfl) (by rw [hb];exact hpos)
      obtain ⟨t1,t2⟩:=c4.2 .u8 rfl
      have hsh:w.shape? (κ b).blk=some (T',cs.size):=by simp [World.shape?,c1]
      have hsz:Ty.size (.int .u8)=1:=rfl
      have hcell:∀ j x,(bytesOf xs)[j]?=some x→w.cell? ((⟨(κ b).blk,(κ b).off,none⟩:Addr).add j)=some (.int .u8 x.toNat):=fun j x hj=>by
       obtain ⟨hj1,hj2⟩:=List.getElem?_eq_some_iff.1 hj
       have hj3:j<List.length xs:=by omega
       obtain ⟨ds,d1,d2⟩:=c5 j hj3
       obtain ⟨rfl,hin⟩:=d2
       have:=d1 0 (by simp)
       rw [add_addr]
       simp only [World.cell?,c1]
       rw [hsz] at this
       simp only [Nat.mul_one,Nat.add_zero] at this
       have hxe:(x.toNat:Int)=xs[j]:=by
        rw [←hj2]
        simp only [bytesOf,List.getElem_map]
        have h1:(0:Int)≤xs[j]:=hin.1
        have h2:xs[j]≤255:=hin.2
        simp
        omega
       rw [hxe]
       exact this
      have hrun:=unsafeString_at (w:=w) pt it o.type u T' hi hui.int t1 t2 (κ b).blk (κ b).off cs.size hsh (bytesOf xs) (fun e=>by rw [e] at hbl;simp at hbl;omega) (by rw [hbl];rw [hsz] at c2;omega) (by rw [hbl];have:=c4.1;omega) hcell
      have hw:RelK C (s.setB b ⟨(s.blk b).gen,.dead⟩) a (w.freeze ⟨(κ b).blk,(κ b).off,none⟩ (bytesOf xs).length) κ F:=by
       have hown:(s.blk b).body.owned (κ b)=true:=by rw [hb];simp [Body.owned,hnil]
       have hother:∀ r,r≠(κ b).blk→(w.freeze ⟨(κ b).blk,(κ b).off,none⟩ (bytesOf xs).length).heap[r]?=w.heap[r]?:=fun r hr=>by
        unfold World.freeze
        split
        ·rfl
        ·simp only [Array.getElem?_modify]
         rw [if_neg (Ne.symm hr)]
       have hsize:(w.freeze ⟨(κ b).blk,(κ b).off,none⟩ (bytesOf xs).length).heap.size=w.heap.size:=by
        unfold World.freeze
        split<;>simp
       have hcalm:Calm w (w.freeze ⟨(κ b).blk,(κ b).off,none⟩ (bytesOf xs).length):=by
        unfold World.freeze
        split<;>exact ⟨rfl,rfl,rfl⟩
       generalize w.freeze ⟨(κ b).blk,(κ b).off,none⟩ (bytesOf xs).length=w' at hother hsize hcalm
       show RelK C ⟨s.slot,fun i=>if i=b then (⟨(s.blk b).gen,.dead⟩:ABlk) else s.blk i⟩ a w' κ F
       obtain ⟨H2,hH2⟩:∃ H2:Nat→ABlk,H2=fun i=>if i=b then (⟨(s.blk b).gen,.dead⟩:ABlk) else s.blk i:=⟨_,rfl⟩
       have hself:H2 b=⟨(s.blk b).gen,.dead⟩:=by rw [hH2];exact if_pos rfl
       have hne:∀ i,i≠b→H2 i=s.blk i:=fun i hi=>by rw [hH2];exact if_neg hi
       have hpk:PKeep s.blk H2:=by rw [hH2];exact pkeep_setB rfl
       rw [←hH2] at hl ⊢
       refine hr.move (H':=H2) hl (fun _ h=>h) (fun _ h=>.inl h) (by omega) (fun r _ h=>hother r fun e=>h b hown e.symm) hcalm (fun he i=>?_) (fun i hi=>?_) (fun i j hi hj e=>?_) (fun r h=>by have:=hr.fsz r h;omega) (fun i _ hc=>⟨rfl,?_⟩) hpk
       ·by_cases e:i=b
        ·subst e;unfold HB;rw [hself];trivial
        ·exact HB.other (hr.blks i) hl (fun _ h=>h) he (by rw [hne i e]) rfl fun ho=>hother _ fun e'=>e (hr.inj i b ho hown e')
       ·by_cases e:i=b
        ·subst e;rw [hself] at hi;cases hi
        ·rw [hne i e] at hi
         exact ⟨by have:=(hr.own i hi).1;omega,(hr.own i hi).2.1,.inl ⟨i,hi,rfl⟩⟩
       ·by_cases e1:i=b
        ·subst e1;rw [hself] at hi;cases hi
        ·by_cases e2:j=b
         ·subst e2;rw [hself] at hj;cases hj
         ·rw [hne i e1] at hi;rw [hne j e2] at hj;exact hr.inj i j hi hj e
       ·by_cases e:i=b
        ·subst e;rw [hself] at hc;rcases hc with hc | hc<;>cases hc
        ·rw [hne i e] at hc;exact hc
      have hpp:p=some ⟨(κ b).blk,(κ b).off,none⟩:=by
       rw [hp] at hpv
       exact Value.pointer.inj hpv
      subst hpp
      rw [hbl] at hrun hw
      subst hm
      refine oper_value hdf (run_call_builtin ho (by simp [builtin,hp,hnv,hrun])) ⟨κ,F,hw.set hdst (RV_str.2 ⟨rfl,by rw [hbl];have:=c4.1;omega⟩)⟩
    ·cases h
   ·cases h
  ·cases hp
 ·cases hp
theorem plV_ok (hT:TabOk C.P T) (hd:dstOk o C.nt=true) {r:Rd (Option OpRes)} (hp:plV C.ft T (opAV C.ft s.slot) o=some r) (h:r.run s.blk=some res):OpOk C o s res:=by
 simp only [dstOk,Bool.and_eq_true] at hd
 have hdst:∀ i,o.dst=some i→i<C.nt:=fun i hi=>by
  have:=hd.1
  rw [hi] at this
  simpa using this
 cases ho:o.op with
 | load ty x=>exact ok_pload hT hdst ho hp h
 | store ty x y=>exact ok_pstore hT (by have:=hd.2;rw [ho] at this;simpa using this) ho hp h
 | indexAddr ty x i=>exact ok_pindex hT hdst ho hp h
 | slice ty x lo hi mx=>exact ok_pslice hT hdst ho hp h
 | call c=>
  obtain ⟨callee,args,tys⟩:=c
  cases callee with
  | builtin b=>
   cases b with
   | len=>exact ok_plen hT hdst ho hp h
   | unsafeSliceData=>exact ok_psdt hT hdst ho hp h
   | unsafeString=>exact ok_pstr hT hdst ho hp h
   | _=>simp [plV,ho] at hp
  | value f=>
   cases f with
   | func k=>exact ok_pcall hdst ho hp h
   | _=>simp [plV,ho] at hp
  | _=>simp [plV,ho] at hp
 | _=>simp [plV,ho] at hp
theorem opV_ok (hT:TabOk C.P T) (hΦ:CtrOk C.P Φ) (hd:dstOk o C.nt=true) (h:(opV C.ft T Φ (opAV C.ft s.slot) o).run s.blk=some res):OpOk C o s res:=by
 unfold opV at h
 split at h
 ·rename_i r hp
  exact plV_ok hT hd hp h
 ·exact opV0_ok hT hΦ hd h
end
def AV.isPel:AV→Bool
 | .pel _ _ _=>true
 | _=>false
def cF (ρ:Operand→AV) (o:Oper):Bool:=cF0 ρ o&&(match o.op with
 | .load _ x=>!(use (ρ x)).2.isPel
 | .store _ x _=>!(use (ρ x)).2.isPel
 | _=>true)
section
variable {U:FnTab} {T:Nat→Ty} {Φ:Nat→Option FC} {ρ ρ':Operand→AV} {o:Oper}
theorem Rd.All.ite {p:OpRes→Prop} {c:Prop} [Decidable c] {r:OpRes} (h:p r):(Rd.ret (if c then some r else Option.none)).All (optP p):=by
 split
 ·exact .some' h
 ·exact .nil
theorem opV_c (hc:cF ρ o=true):(opV U T Φ ρ o).All (optP fun r=>r.c):=by
 unfold cF at hc
 rw [Bool.and_eq_true] at hc
 unfold opV
 split
 ·rename_i r hp
  obtain ⟨hc0,hc⟩:=hc
  cases ho:o.op with
  | load ty x=>
   rw [ho] at hc
   simp only [plV,ho] at hp
   split at hp
   ·rename_i hu;simp [hu,AV.isPel] at hc
   ·cases hp
  | store ty x y=>
   rw [ho] at hc
   simp only [plV,ho] at hp
   split at hp
   ·rename_i hu;simp [hu,AV.isPel] at hc
   ·cases hp
  | indexAddr ty x i=>simp [cF0,ho] at hc0
  | slice ty x lo hi mx=>simp [cF0,ho] at hc0
  | call c=>
   obtain ⟨callee,args,tys⟩:=c
   cases callee with
   | builtin b=>
    cases b with
    | len=>
     simp only [plV,ho] at hp
     split at hp
     ·split at hp
      ·cases hp;exact .ite trivial
      ·cases hp
     ·cases hp
    | unsafeSliceData=>simp [cF0,ho,cFB] at hc0
    | unsafeString=>simp [cF0,ho,cFB] at hc0
    | _=>simp [plV,ho] at hp
   | value f=>simp [cF0,ho] at hc0
   | _=>simp [plV,ho] at hp
  | _=>simp [plV,ho] at hp
 ·exact opV0_c hc.1
theorem opV_obU (hu1:UseOk ρ o):(opV U T Φ ρ o).All (optP fun r=>r.ob):=by
 unfold opV
 split
 ·rename_i r hp
  cases ho:o.op with
  | load ty x=>
   simp only [plV,ho] at hp
   split at hp
   ·rename_i hu
    cases hp
    intro z
    have:=hu1.use (x:=x) (by rw [ho];simp [Op.operands]) hu
    show (Rd.ret _).All _
    split
    ·exact .ite this
    ·exact .nil
   ·cases hp
  | store ty x y=>
   simp only [plV,ho] at hp
   split at hp
   ·rename_i hu
    split at hp
    ·rename_i hv
     cases hp
     intro z
     have h1:=hu1.use (x:=x) (by rw [ho];simp [Op.operands]) hu
     have h2:=hu1.use (x:=y) (by rw [ho];simp [Op.operands]) hv
     show (Rd.ret _).All _
     split
     ·exact .ite ⟨h1,h2⟩
     ·exact .nil
    ·cases hp
   ·cases hp
  | indexAddr ty x i=>
   simp only [plV,ho] at hp
   split at hp
   ·rename_i hu
    split at hp
    ·cases hp
     exact .ite ⟨hu1.use (x:=x) (by rw [ho];simp [Op.operands]) hu,hu1 i (by rw [ho];simp [Op.operands])⟩
    ·cases hp
   ·cases hp
  | slice ty x lo hi mx=>
   simp only [plV,ho] at hp
   split at hp
   ·rename_i hu
    split at hp
    ·rename_i hlo hhi
     cases hp
     exact .ite ⟨hu1.use (x:=x) (by rw [ho];simp [Op.operands]) hu,boundV_free hlo fun y hy=>hu1 y (by rw [ho];subst hy;simp [Op.operands]),boundV_free hhi fun y hy=>hu1 y (by rw [ho];subst hy;simp [Op.operands])⟩
    ·cases hp
   ·cases hp
  | call c=>
   obtain ⟨callee,args,tys⟩:=c
   cases callee with
   | builtin b=>
    cases b with
    | len=>
     simp only [plV,ho] at hp
     split at hp
     ·rename_i x t e1 e2
      split at hp
      ·rename_i hu
       cases hp
       exact .ite (hu1.use (x:=x) (by rw [ho];simp only [Op.operands,Call.operands,Array.toList_append,e1];simp) hu)
      ·cases hp
     ·cases hp
    | unsafeSliceData=>
     simp only [plV,ho] at hp
     split at hp
     ·rename_i x e1
      split at hp
      ·rename_i hu
       cases hp
       have:=hu1.use (x:=x) (by rw [ho];simp only [Op.operands,Call.operands,Array.toList_append,e1];simp) hu
       intro z
       show (Rd.ret _).All _
       split
       ·exact .ite this
       ·exact .nil
      ·cases hp
     ·cases hp
    | unsafeString=>
     simp only [plV,ho] at hp
     split at hp
     ·rename_i x n pt it e1 e2
      split at hp
      ·rename_i hu hn
       cases hp
       have h1:=hu1.use (x:=x) (by rw [ho];simp only [Op.operands,Call.operands,Array.toList_append,e1];simp) hu
       have h2:=hu1.use (x:=n) (by rw [ho];simp only [Op.operands,Call.operands,Array.toList_append,e1];simp) hn
       intro z
       show (Rd.ret _).All _
       split
       ·exact .ite ⟨h1,h2⟩
       ·exact .nil
      ·cases hp
     ·cases hp
    | _=>simp [plV,ho] at hp
   | value f=>
    cases f with
    | func k=>
     simp only [plV,ho,Option.map_eq_some_iff] at hp
     obtain ⟨c,_,rfl⟩:=hp
     have hfr:usesObL (args.toList.map ρ):=usesObL_free fun v hv=>by
      obtain ⟨p,hp,rfl⟩:=List.mem_map.1 hv
      exact hu1 p (by rw [ho];simp [Op.operands,Call.operands];simp_all)
     refine Rd.All.bind fun r=>?_
     split
     ·intro z
      show Rd.All _ (match poolAs c.e z.body with | some m=>_ | none=>_)
      split
      ·exact Rd.All.bind fun wl=>.some' hfr
      ·exact .none'
     ·exact Rd.All.bindO fun ⟨x,fl⟩=>Rd.All.bind fun wl=>.some' hfr
    | _=>simp [plV,ho] at hp
   | _=>simp [plV,ho] at hp
  | _=>simp [plV,ho] at hp
 ·exact opV0_obU hu1
theorem opV_ob (h:obF ρ o=true):(opV U T Φ ρ o).All (optP fun r=>r.ob):=opV_obU (obF_ok h)
theorem plV_congr (h:∀ x∈o.op.operands.toList,ρ x=ρ' x):plV U T ρ o=plV U T ρ' o:=by
 cases ho:o.op with
 | load ty x=>rw [ho] at h;have h1:=h x (by simp [Op.operands]);unfold plV;rw [ho];simp only [h1]
 | store ty x y=>
  rw [ho] at h
  have h1:=h x (by simp [Op.operands]);have h2:=h y (by simp [Op.operands])
  unfold plV;rw [ho];simp only [h1,h2]
 | indexAddr ty x i=>
  rw [ho] at h
  have h1:=h x (by simp [Op.operands]);have h2:=h i (by simp [Op.operands])
  unfold plV;rw [ho];simp only [h1,h2]
 | slice ty x lo hi mx=>
  rw [ho] at h
  have h1:=h x (by simp [Op.operands])
  have h2:boundV ρ lo=boundV ρ' lo:=boundV_congr fun y hy=>h y (by subst hy;simp [Op.operands])
  have h3:boundV ρ hi=boundV ρ' hi:=boundV_congr fun y hy=>h y (by subst hy;simp [Op.operands])
  unfold plV;rw [ho];simp only [h1,h2,h3]
 | call c=>
  rw [ho] at h
  obtain ⟨callee,args,tys⟩:=c
  have hargs:∀ x∈args.toList,ρ x=ρ' x:=fun x hx=>h x (by simp [Op.operands,Call.operands];simp_all)
  have hl:args.toList.map ρ=args.toList.map ρ':=List.map_congr_left hargs
  unfold plV;rw [ho];simp only
  split
  ·split
   ·rename_i x t e1 e2
    rw [hargs x (by simp [e1])]
   ·rfl
  ·split
   ·rename_i x e1
    rw [hargs x (by simp [e1])]
   ·rfl
  ·split
   ·rename_i x n pt it e1 e2
    rw [hargs x (by simp [e1]),hargs n (by simp [e1])]
   ·rfl
  ·unfold callPV
   simp only [hl]
  ·rfl
 | _=>unfold plV;rw [ho]
theorem opV_congr (h:∀ x∈o.op.operands.toList,ρ x=ρ' x):opV U T Φ ρ o=opV U T Φ ρ' o:=by
 unfold opV
 rw [plV_congr h,opV0_congr h]
end
end Go.Fer
namespace Go.Fer
open Go.RowKit
def bw (want b:Bool):Bool:=match want with | true=>b | false=>!b
def guardV (s:Nat→AV) (ops:Array Oper):Option (Nat×Bool)→Option (Option Bool)
 | none=>some none
 | some (j,want)=>match ops[j]? with
  | some o=>match o.dst with
   | some d=>match s d with
    | .val .bool b=>some (some (bw want b))
    | .whn g (.val .bool b)=>some (some (g&&bw want b))
    | _=>none
   | none=>none
  | none=>none
def guardSlot (ops:Array Oper):Option (Nat×Bool)→List Nat
 | none=>[]
 | some (j,_)=>match ops[j]? with
  | some o=>o.dst.toList
  | none=>[]
def tmpsOf (l:List Operand):List Nat:=l.filterMap fun | .tmp t=>some t | _=>none
def slotsOf (ops:Array Oper) (o:Oper):List Nat:=guardSlot ops o.guard++tmpsOf o.op.operands.toList
structure SR where
 cs:List Prop
 dst:Option Nat
 dv:AV
 wb:List (Nat×ABlk)
 rs:List Nat
 rb:List Nat
def SR.upd (r:SR) (s:AState):AState:=(s.setBs r.wb).set r.dst r.dv
def SR.ws (r:SR):List Nat:=r.dst.toList
def SR.wk (r:SR):List Nat:=r.wb.map (·.1)
def condsU (q1 q2:Bool) (ob c:Prop):List Prop:=(match q1 with | true=>[] | false=>[ob])++(match q2 with | true=>[] | false=>[c])
def stepS (U:FnTab) (T:Nat→Ty) (Φ:Nat→Option FC) (ops:Array Oper) (s:AState) (o:Oper):Option SR:=
 match guardV s.slot ops o.guard with
 | none=>none
 | some g=>match (opV U T Φ (opAV U s.slot) o).run s.blk with
  | none=>none
  | some res=>match g with
   | none=>some ⟨condsU (obF (opAV U s.slot) o) (cF (opAV U s.slot) o) res.ob res.c,o.dst,res.dv,res.wb,slotsOf ops o,(opV U T Φ (opAV U s.slot) o).looks s.blk⟩
   | some b=>match res.wb with
    | []=>some ⟨condsU (obF (opAV U s.slot) o&&(cF (opAV U s.slot) o&&!res.dv.isWhn)) true (b=true→res.ob∧(res.c∧(use res.dv).1)) True,o.dst,.whn b (use res.dv).2,[],slotsOf ops o,(opV U T Φ (opAV U s.slot) o).looks s.blk⟩
    | _=>none
def steps (U:FnTab) (T:Nat→Ty) (Φ:Nat→Option FC) (ops:Array Oper):List Oper→AState→Option (List SR×AState)
 | [],s=>some ([],s)
 | o::os,s=>match stepS U T Φ ops s o with
  | none=>none
  | some r=>match steps U T Φ ops os (r.upd s) with
   | none=>none
   | some (l,s')=>some (r::l,s')
def disj (a b:List Nat):Bool:=a.all fun x=>!b.contains x
def SR.apart (a b:SR):Bool:=disj a.ws (b.rs++b.ws)&&disj a.rs b.ws&&disj a.wk (b.rb++b.wk)&&disj a.rb b.wk
def direct (o:Oper):List Nat:=o.after.toList.filterMap fun e=>if Region.binds .any e then some e.on else none
def onceL (acc:List Nat):List Nat→List Nat
 | []=>acc
 | x::l=>match acc.contains x with | true=>onceL acc l | false=>onceL (x::acc) l
theorem mem_onceL {x:Nat}:∀ {l acc:List Nat},x∈onceL acc l→x∈acc∨x∈l
 | [],acc,h=>.inl h
 | y::l,acc,h=>by
  unfold onceL at h
  split at h
  ·exact (mem_onceL h).imp_right (List.mem_cons_of_mem _)
  ·rcases mem_onceL h with h | h
   ·rcases List.mem_cons.1 h with h | h
    ·exact .inr (h ▸ List.mem_cons_self)
    ·exact .inl h
   ·exact .inr (List.mem_cons_of_mem _ h)
def closeL (acc:List (List Nat)) (o:Oper):List (List Nat):=acc++[onceL [] ((direct o).flatMap fun j=>j::acc.getD j [])]
def closure (ops:List Oper):List (List Nat):=ops.foldl closeL []
def pairsOk (cl:List (List Nat)) (l:List SR):Bool:=
 (List.range l.length).all fun j=>(List.range j).all fun i=>match l[i]?,l[j]? with
  | some a,some b=>(cl.getD j []).contains i||a.apart b
  | _,_=>false
def edgesOk (ops:List Oper):Bool:=(List.range ops.length).all fun j=>match ops[j]? with
 | some o=>(direct o).all fun i=>decide (i<j)
 | none=>false
def drawOk (ops:List Oper) (l:List SR):Bool:=edgesOk ops&&pairsOk (closure ops) l
def AgS (R:List Nat) (s s':AState):Prop:=∀ t∈R,s.slot t=s'.slot t
def AgB (B:List Nat) (s s':AState):Prop:=∀ b∈B,s.blk b=s'.blk b
theorem disj_spec {a b:List Nat} (h:disj a b=true) {x:Nat} (hx:x∈a):x ∉ b:=by
 have:=List.all_eq_true.1 h x hx
 simpa using this
theorem setBs_slot (s:AState):∀ (l:List (Nat×ABlk)),(s.setBs l).slot=s.slot:=by
 intro l
 induction l generalizing s with
 | nil=>rfl
 | cons p l ih=>simp only [AState.setBs];rw [ih];rfl
theorem setBs_blk_not {b:Nat}:∀ (l:List (Nat×ABlk)) (s:AState),b ∉ l.map (·.1)→(s.setBs l).blk b=s.blk b:=by
 intro l
 induction l with
 | nil=>intro s _;rfl
 | cons p l ih=>
  intro s h
  simp only [List.map_cons,List.mem_cons,not_or] at h
  simp only [AState.setBs]
  rw [ih _ h.2]
  simp [AState.setB,h.1]
theorem setBs_blk_in {b:Nat}:∀ (l:List (Nat×ABlk)) (s s':AState),b∈l.map (·.1)→(s.setBs l).blk b=(s'.setBs l).blk b:=by
 intro l
 induction l with
 | nil=>intro s s' h;cases h
 | cons p l ih=>
  intro s s' h
  simp only [AState.setBs]
  by_cases hb:b∈l.map (·.1)
  ·exact ih _ _ hb
  ·rw [setBs_blk_not l _ hb,setBs_blk_not l _ hb]
   have:b=p.1:=by simpa [hb] using h
   simp [AState.setB,this]
theorem set_blk (s:AState) (d:Option Nat) (v:AV):(s.set d v).blk=s.blk:=by cases d<;>rfl
theorem upd_slot (r:SR) (s:AState) (t:Nat):(r.upd s).slot t=if t∈r.ws then r.dv else s.slot t:=by
 unfold SR.upd SR.ws
 cases h:r.dst with
 | none=>simp [AState.set,setBs_slot]
 | some d=>simp [AState.set,setBs_slot,eq_comm]
theorem upd_blk (r:SR) (s:AState) (b:Nat):(r.upd s).blk b=(s.setBs r.wb).blk b:=by unfold SR.upd;rw [set_blk]
theorem upd_slot_not {r:SR} {s:AState} {t:Nat} (h:t ∉ r.ws):(r.upd s).slot t=s.slot t:=by rw [upd_slot,if_neg h]
theorem upd_blk_not {r:SR} {s:AState} {b:Nat} (h:b ∉ r.wk):(r.upd s).blk b=s.blk b:=by rw [upd_blk];exact setBs_blk_not _ _ h
theorem AState.ext' {s s':AState} (h1:∀ t,s.slot t=s'.slot t) (h2:∀ b,s.blk b=s'.blk b):s=s':=by
 obtain ⟨a,b⟩:=s
 obtain ⟨a',b'⟩:=s'
 rw [show a=a' from funext h1,show b=b' from funext h2]
theorem upd_comm {a b:SR} (h1:∀ t∈a.ws,t ∉ b.ws) (h2:∀ x∈a.wk,x ∉ b.wk) (s:AState):a.upd (b.upd s)=b.upd (a.upd s):=by
 apply AState.ext'
 ·intro t
  simp only [upd_slot]
  by_cases ha:t∈a.ws
  ·rw [if_pos ha,if_neg (h1 t ha),if_pos ha]
  ·by_cases hb:t∈b.ws
   ·rw [if_neg ha,if_pos hb,if_pos hb]
   ·rw [if_neg ha,if_neg hb,if_neg hb,if_neg ha]
 ·intro x
  by_cases ha:x∈a.wk
  ·have hb:=h2 x ha
   rw [upd_blk_not hb,upd_blk,upd_blk]
   exact setBs_blk_in _ _ _ ha
  ·rw [upd_blk_not ha]
   by_cases hb:x∈b.wk
   ·rw [upd_blk,upd_blk]
    exact setBs_blk_in _ _ _ hb
   ·rw [upd_blk_not hb,upd_blk_not hb,upd_blk_not ha]
def fold (l:List SR) (s:AState):AState:=l.foldl (fun s r=>r.upd s) s
theorem fold_same {R B:List Nat}:∀ (l:List SR) (s:AState),(∀ r∈l,(∀ t∈R,t ∉ r.ws)∧∀ b∈B,b ∉ r.wk)→AgS R (fold l s) s∧AgB B (fold l s) s:=by
 intro l
 induction l with
 | nil=>intro s _;exact ⟨fun _ _=>rfl,fun _ _=>rfl⟩
 | cons r l ih=>
  intro s h
  obtain ⟨h1,h2⟩:=ih (r.upd s) fun r' hr'=>h r' (List.mem_cons_of_mem _ hr')
  have hr:=h r (List.mem_cons_self)
  exact ⟨fun t ht=>(h1 t ht).trans (upd_slot_not (hr.1 t ht)),fun b hb=>(h2 b hb).trans (upd_blk_not (hr.2 b hb))⟩
theorem upd_ag {R B:List Nat} {r:SR} {s s':AState} (h1:AgS R s s') (h2:AgB B s s'):AgS R (r.upd s) (r.upd s')∧AgB B (r.upd s) (r.upd s'):=by
 refine ⟨fun t ht=>?_,fun b hb=>?_⟩
 ·rw [upd_slot,upd_slot]
  split
  ·rfl
  ·exact h1 t ht
 ·by_cases hw:b∈r.wk
  ·rw [upd_blk,upd_blk];exact setBs_blk_in _ _ _ hw
  ·rw [upd_blk_not hw,upd_blk_not hw];exact h2 b hb
theorem fold_sub {R B:List Nat} (p:Nat×SR→Bool):∀ (l:List (Nat×SR)) (s s':AState),AgS R s s'→AgB B s s'→(∀ r∈l,p r=false→(∀ t∈R,t ∉ r.2.ws)∧∀ b∈B,b ∉ r.2.wk)→
  AgS R (fold ((l.filter p).map (·.2)) s) (fold (l.map (·.2)) s')∧AgB B (fold ((l.filter p).map (·.2)) s) (fold (l.map (·.2)) s'):=by
 intro l
 induction l with
 | nil=>intro s s' h1 h2 _;exact ⟨h1,h2⟩
 | cons r l ih=>
  intro s s' h1 h2 h
  have hl:=fun r' hr'=>h r' (List.mem_cons_of_mem _ hr')
  cases hp:p r with
  | true=>
   rw [List.filter_cons_of_pos hp]
   obtain ⟨k1,k2⟩:=upd_ag (r:=r.2) h1 h2
   exact ih _ _ k1 k2 hl
  | false=>
   rw [List.filter_cons_of_neg (by simp [hp])]
   have hr:=h r (List.mem_cons_self) hp
   exact ih _ _ (fun t ht=>(h1 t ht).trans (upd_slot_not (hr.1 t ht)).symm) (fun b hb=>(h2 b hb).trans (upd_blk_not (hr.2 b hb)).symm) hl
theorem fold_comm {r:SR}:∀ (l:List SR) (s:AState),(∀ x∈l,(∀ t∈r.ws,t ∉ x.ws)∧∀ b∈r.wk,b ∉ x.wk)→fold l (r.upd s)=r.upd (fold l s):=by
 intro l
 induction l with
 | nil=>intro s _;rfl
 | cons x l ih=>
  intro s h
  have hx:=h x (List.mem_cons_self)
  show fold l (x.upd (r.upd s))=r.upd (fold l (x.upd s))
  rw [←upd_comm hx.1 hx.2 s]
  exact ih _ fun y hy=>h y (List.mem_cons_of_mem _ hy)
end Go.Fer
namespace Go.Fer
open Go.RowKit
def enum:Nat→List SR→List (Nat×SR)
 | _,[]=>[]
 | n,r::l=>(n,r)::enum (n+1) l
theorem enum_append:∀ (l m:List SR) (n:Nat),enum n (l++m)=enum n l++enum (n+l.length) m
 | [],m,n=>by simp [enum]
 | r::l,m,n=>by simp only [List.cons_append,enum,enum_append l m (n+1),List.length_cons];rw [show n+1+l.length=n+(l.length+1) by omega]
theorem enum_map:∀ (l:List SR) (n:Nat),(enum n l).map (·.2)=l
 | [],_=>rfl
 | r::l,n=>by simp only [enum,List.map_cons,enum_map l (n+1)]
theorem enum_mem:∀ {l:List SR} {n j:Nat} {x:SR},(j,x)∈enum n l→n≤j∧l[j - n]?=some x
 | r::l,n,j,x,h=>by
  simp only [enum,List.mem_cons,Prod.mk.injEq] at h
  rcases h with ⟨rfl,rfl⟩ | h
  ·simp
  ·obtain ⟨h1,h2⟩:=enum_mem h
   refine ⟨by omega,?_⟩
   rw [show j - n=(j - (n+1))+1 by omega]
   simpa using h2
 | [],_,_,_,h=>by cases h
def stA (l:List SR) (s:AState) (f:Nat→Bool):AState:=fold (((enum 0 l).filter fun p=>f p.1).map (·.2)) s
theorem fold_append (l m:List SR) (s:AState):fold (l++m) s=fold m (fold l s):=by simp [fold]
theorem apart_spec {a b:SR} (h:a.apart b=true):(∀ t∈a.ws,t ∉ b.rs∧t ∉ b.ws)∧(∀ t∈a.rs,t ∉ b.ws)∧(∀ x∈a.wk,x ∉ b.rb∧x ∉ b.wk)∧∀ x∈a.rb,x ∉ b.wk:=by
 simp only [SR.apart,Bool.and_eq_true] at h
 obtain ⟨⟨⟨h1,h2⟩,h3⟩,h4⟩:=h
 refine ⟨fun t ht=>?_,fun t ht=>disj_spec h2 ht,fun x hx=>?_,fun x hx=>disj_spec h4 hx⟩
 ·have:=disj_spec h1 ht;simpa using this
 ·have:=disj_spec h3 hx;simpa using this
theorem stA_step {l:List SR} {s:AState} {f:Nat→Bool} {i:Nat} {r:SR} (hi:l[i]?=some r) (hf:f i=false)
  (hpre:∀ j x,j<i→l[j]?=some x→f j=false→x.apart r=true) (hpost:∀ j x,i<j→l[j]?=some x→f j=true→r.apart x=true) :
  AgS r.rs (stA l s f) (fold (l.take i) s)∧AgB r.rb (stA l s f) (fold (l.take i) s)∧stA l s (fun j=>if j=i then true else f j)=r.upd (stA l s f):=by
 obtain ⟨hlt,hget⟩:=List.getElem?_eq_some_iff.1 hi
 have hlen:(l.take i).length=i:=by simp;omega
 have hsplit:enum 0 l=enum 0 (l.take i)++(i,r)::enum (i+1) (l.drop (i+1)):=by
  have h1:l=l.take i++r::l.drop (i+1):=by
   have:=List.take_append_drop i l
   rw [List.drop_eq_getElem_cons hlt,hget] at this
   exact this.symm
  have h2:=enum_append (l.take i) (r::l.drop (i+1)) 0
  rw [←h1,hlen] at h2
  simpa [enum] using h2
 have hpreI:∀ p∈enum 0 (l.take i),p.1<i∧l[p.1]?=some p.2:=by
  rintro ⟨j,x⟩ hp
  obtain ⟨_,h2⟩:=enum_mem hp
  rw [Nat.sub_zero,List.getElem?_take] at h2
  split at h2
  ·rename_i hj;exact ⟨hj,h2⟩
  ·cases h2
 have hpostI:∀ p∈enum (i+1) (l.drop (i+1)),i<p.1∧l[p.1]?=some p.2:=by
  rintro ⟨j,x⟩ hp
  obtain ⟨h1,h2⟩:=enum_mem hp
  rw [List.getElem?_drop,show i+1+(j - (i+1))=j by omega] at h2
  exact ⟨h1,h2⟩
 have htail:∀ x∈((enum (i+1) (l.drop (i+1))).filter fun p=>f p.1).map (·.2),r.apart x=true:=by
  intro x hx
  simp only [List.mem_map,List.mem_filter] at hx
  obtain ⟨p,⟨hp,hfp⟩,rfl⟩:=hx
  obtain ⟨h1,h2⟩:=hpostI p hp
  exact hpost p.1 p.2 h1 h2 hfp
 have hA:stA l s f=fold (((enum (i+1) (l.drop (i+1))).filter fun p=>f p.1).map (·.2)) (fold (((enum 0 (l.take i)).filter fun p=>f p.1).map (·.2)) s):=by
  unfold stA
  rw [hsplit,List.filter_append,List.filter_cons_of_neg (by simp [hf]),List.map_append,fold_append]
 have hsame:=fold_same (R:=r.rs) (B:=r.rb) (((enum (i+1) (l.drop (i+1))).filter fun p=>f p.1).map (·.2)) (fold (((enum 0 (l.take i)).filter fun p=>f p.1).map (·.2)) s)
  (fun x hx=>by
   have:=apart_spec (htail x hx)
   exact ⟨this.2.1,this.2.2.2⟩)
 have hsub:=fold_sub (R:=r.rs) (B:=r.rb) (fun p=>f p.1) (enum 0 (l.take i)) s s (fun _ _=>rfl) (fun _ _=>rfl) (fun p hp hfp=>by
  obtain ⟨h1,h2⟩:=hpreI p hp
  have:=apart_spec (hpre p.1 p.2 h1 h2 hfp)
  exact ⟨fun t ht hw=>(this.1 t hw).1 ht,fun b hb hw=>(this.2.2.1 b hw).1 hb⟩)
 rw [enum_map] at hsub
 refine ⟨fun t ht=>by rw [hA];exact (hsame.1 t ht).trans (hsub.1 t ht),fun b hb=>by rw [hA];exact (hsame.2 b hb).trans (hsub.2 b hb),?_⟩
 rw [hA]
 unfold stA
 have e1:(enum 0 (l.take i)).filter (fun p=>if p.1=i then true else f p.1)=(enum 0 (l.take i)).filter fun p=>f p.1:=by
  apply List.filter_congr
  intro p hp
  rw [if_neg (by have:=(hpreI p hp).1;omega)]
 have e2:(enum (i+1) (l.drop (i+1))).filter (fun p=>if p.1=i then true else f p.1)=(enum (i+1) (l.drop (i+1))).filter fun p=>f p.1:=by
  apply List.filter_congr
  intro p hp
  rw [if_neg (by have:=(hpostI p hp).1;omega)]
 rw [hsplit,List.filter_append,List.filter_cons_of_pos (by simp),e1,e2,List.map_append,fold_append]
 show fold _ (r.upd _)=_
 refine fold_comm _ _ fun x hx=>?_
 have:=apart_spec (htail x hx)
 exact ⟨fun t ht=>(this.1 t ht).2,fun b hb=>(this.2.2.1 b hb).2⟩
theorem closure_ok {p:Nat→Prop}:∀ (ops:List Oper) (acc:List (List Nat)),(∀ j i,i∈acc.getD j []→p j→p i)→(∀ j o,ops[j]?=some o→∀ i∈direct o,p (acc.length+j)→p i)→
  ∀ j i,i∈(ops.foldl closeL acc).getD j []→p j→p i:=by
 intro ops
 induction ops with
 | nil=>intro acc h _;exact h
 | cons o ops ih=>
  intro acc h hd
  refine ih (closeL acc o) (fun j i hi hj=>?_) fun j o' ho' i hi hj=>hd (j+1) o' (by simpa using ho') i hi (by
   have:(closeL acc o).length=acc.length+1:=by simp [closeL]
   rw [this] at hj
   rw [show acc.length+(j+1)=acc.length+1+j by omega];exact hj)
  unfold closeL at hi
  rw [List.getD_eq_getElem?_getD,List.getElem?_append] at hi
  split at hi
  ·exact h j i (by rw [List.getD_eq_getElem?_getD];exact hi) hj
  ·rename_i hlt
   by_cases e:j=acc.length
   ·subst e
    simp only [Nat.sub_self,List.getElem?_cons_zero,Option.getD_some] at hi
    have hi:=(mem_onceL hi).resolve_left (by simp)
    simp only [List.mem_flatMap,List.mem_cons] at hi
    obtain ⟨k,hk,hi⟩:=hi
    have hpk:=hd 0 o (by simp) k hk (by simpa using hj)
    rcases hi with rfl | hi
    ·exact hpk
    ·exact h k i hi hpk
   ·rw [List.getElem?_eq_none (by simp;omega)] at hi
    cases hi
theorem steps_spec {U:FnTab} {T:Nat→Ty} {Φ:Nat→Option FC} {ops:Array Oper}:∀ (os:List Oper) (s:AState) {l:List SR} {s':AState},steps U T Φ ops os s=some (l,s')→
  l.length=os.length∧s'=fold l s∧∀ i o,os[i]?=some o→∃ r,l[i]?=some r∧stepS U T Φ ops (fold (l.take i) s) o=some r:=by
 intro os
 induction os with
 | nil=>intro s l s' h;cases h;exact ⟨rfl,rfl,fun i o h=>by cases h⟩
 | cons o os ih=>
  intro s l s' h
  simp only [steps] at h
  split at h
  ·cases h
  ·rename_i r hr
   split at h
   ·cases h
   ·rename_i l' s'' hl
    cases h
    obtain ⟨h1,h2,h3⟩:=ih _ hl
    refine ⟨by simp [h1],h2,fun i o' ho'=>?_⟩
    cases i with
    | zero=>
     simp only [List.getElem?_cons_zero,Option.some.injEq] at ho'
     subst ho'
     exact ⟨r,by simp,hr⟩
    | succ i=>
     obtain ⟨r',k1,k2⟩:=h3 i o' (by simpa using ho')
     exact ⟨r',by simpa using k1,k2⟩
theorem guardV_congr {ops:Array Oper} {f f':Nat→AV} {g:Option (Nat×Bool)} (h:∀ t∈guardSlot ops g,f t=f' t):guardV f ops g=guardV f' ops g:=by
 unfold guardV
 cases g with
 | none=>rfl
 | some p=>
  obtain ⟨j,want⟩:=p
  simp only
  cases hj:ops[j]? with
  | none=>rfl
  | some o=>
   simp only
   cases hd:o.dst with
   | none=>rfl
   | some d=>
    simp only
    rw [h d (by simp [guardSlot,hj,hd])]
theorem stepS_congr {U:FnTab} {T:Nat→Ty} {Φ:Nat→Option FC} {ops:Array Oper} {s s':AState} {o:Oper} {r:SR} (h:stepS U T Φ ops s o=some r) (h1:AgS r.rs s' s) (h2:AgB r.rb s' s):stepS U T Φ ops s' o=some r:=by
 have hrs:r.rs=slotsOf ops o∧r.rb=(opV U T Φ (opAV U s.slot) o).looks s.blk:=by
  unfold stepS at h
  split at h
  ·cases h
  ·split at h
   ·cases h
   ·split at h
    ·cases h;exact ⟨rfl,rfl⟩
    ·split at h
     ·cases h;exact ⟨rfl,rfl⟩
     ·cases h
 rw [hrs.1] at h1
 rw [hrs.2] at h2
 have hop:∀ x∈o.op.operands.toList,opAV U s'.slot x=opAV U s.slot x:=by
  intro x hx
  cases x with
  | tmp t=>
   refine h1 t ?_
   simp only [slotsOf,List.mem_append]
   exact .inr (List.mem_filterMap.2 ⟨.tmp t,hx,rfl⟩)
  | _=>rfl
 have e1:guardV s'.slot ops o.guard=guardV s.slot ops o.guard:=guardV_congr fun t ht=>h1 t (by simp [slotsOf,ht])
 have e2:opV U T Φ (opAV U s'.slot) o=opV U T Φ (opAV U s.slot) o:=opV_congr hop
 have e3:=Rd.run_congr (H:=s.blk) (H':=s'.blk) (opV U T Φ (opAV U s.slot) o) h2
 have e4:obF (opAV U s'.slot) o=obF (opAV U s.slot) o:=by
  unfold obF
  have:∀ (l:List Operand),(∀ x∈l,opAV U s'.slot x=opAV U s.slot x)→(l.all fun x=>!(opAV U s'.slot x).isWhn)=l.all fun x=>!(opAV U s.slot x).isWhn:=by
   intro l
   induction l with
   | nil=>intro _;rfl
   | cons x l ih=>intro h;simp only [List.all_cons];rw [h x (by simp),ih fun y hy=>h y (by simp [hy])]
  exact this _ hop
 have e6:cF0 (opAV U s'.slot) o=cF0 (opAV U s.slot) o:=by
  unfold cF0
  cases ho:o.op with
  | binOp op ty x y t=>
   rw [ho] at hop
   simp only
   rw [hop x (by simp [Op.operands])]
  | call c=>
   obtain ⟨callee,args,tys⟩:=c
   rw [ho] at hop
   cases callee with
   | builtin b=>
    have hh:∀ x∈args.toList,opAV U s'.slot x=opAV U s.slot x:=fun x hx=>hop x (by simp [Op.operands,Call.operands];simp_all)
    simp only
    unfold cFB
    cases b with
    | len=>
     simp only
     split
     ·rename_i x hx
      rw [hh x (by rw [hx];simp)]
     ·rfl
    | _=>rfl
   | _=>rfl
  | _=>rfl
 have e5:cF (opAV U s'.slot) o=cF (opAV U s.slot) o:=by
  unfold cF
  rw [e6]
  congr 1
  cases ho:o.op with
  | load ty x=>rw [ho] at hop;simp only;rw [hop x (by simp [Op.operands])]
  | store ty x y=>rw [ho] at hop;simp only;rw [hop x (by simp [Op.operands])]
  | _=>rfl
 unfold stepS at h ⊢
 rw [e1,e2,e3.1,e3.2,e4,e5]
 exact h
end Go.Fer
namespace Go.Fer
open Go.RowKit
universe u
def M.fail {β:Type}:M β:=⟨False,fun _=>False⟩
inductive TAV where
 | undef
 | val (t:Ty)
 | pp (t:Ty)
 | loc (b off:Nat)
 | own (b:Nat)
 | sub (b:Nat)
 | mapl (b:Nat)
 | iter (b:Nat)
 | nils
 | clo (k:FuncId) (ls:List (Nat×Nat))
 | tr (A:Ty)
 | yld
 | row (bs:List Nat)
 | nos (b:Nat)
 deriving DecidableEq
inductive TB where
 | cells (t:Ty) (l:List TAV)
 | arr (e:Ty)
 | froz (e:Ty)
 | mp (k v:Ty)
 | frzm (k v:Ty)
 | whole (t:Ty)
 | frzc (t:Ty)
 | it (k v:Ty)
 | pool (e:Ty)
def TAV.cons (t:TAV) (R:Type):Type:=
 match t with
 | .val t=>t.Den×R
 | .pp t=>t.Den×R
 | .sub _=>(Nat×Nat)×R
 | .tr A=>(Nat×(List A.Den→Prop)×List A.Den×Bool)×R
 | .yld=>Nat×R
 | _=>R
def consL:List TAV→Type→Type
 | [],R=>R
 | t::l,R=>t.cons (consL l R)
def TB.cons (t:TB) (R:Type):Type:=
 match t with
 | .cells _ l=>consL l R
 | .arr e=>List e.Den×R
 | .froz e=>List e.Den×R
 | .mp k v=>List (k.Den×v.Den)×R
 | .frzm k v=>List (k.Den×v.Den)×R
 | .whole t=>t.Den×R
 | .frzc t=>t.Den×R
 | .it k v=>(Option (k.Den×v.Den)×List (k.Den×v.Den))×R
 | .pool e=>List (Nat×List e.Den)×R
def TB.isPool:TB→Bool
 | .pool _=>true
 | _=>false
def TB.isOwn:TB→Bool
 | .cells _ _ | .arr _ | .mp _ _ | .whole _ | .it _ _=>true
 | _=>false
def TB.kin (t u:TB):Bool:=
 match t,u with
 | .cells _ _,.cells _ _ | .cells _ _,.whole _ | .whole _,.cells _ _ | .whole _,.whole _ | .frzc _,.cells _ _ | .frzc _,.whole _=>true
 | .mp _ _,.mp _ _ | .frzm _ _,.mp _ _=>true
 | .arr e,.arr e'=>decide (e=e')
 | .froz _,.arr _=>true
 | _,_=>false
structure Shape where
 slots:List (Nat×TAV)
 blks:List (Nat×TB)
def blkDen:List (Nat×TB)→Type
 | []=>Unit
 | p::l=>p.2.cons (blkDen l)
def slotDen:List (Nat×TAV)→Type→Type
 | [],R=>R
 | p::l,R=>p.2.cons (slotDen l R)
def Shape.Den (sh:Shape):Type:=slotDen sh.slots (blkDen sh.blks)
def cloCaps (g:Nat→Nat×Nat) (ls:List (Nat×Nat)):Nat→AV:=nthAV (ls.map fun p=>.loc (g p.1).1 (g p.1).2 p.2)
def rowAV (g:Nat→Nat×Nat) (bs:List Nat):Nat→AV:=nthAV (bs.map fun b=>.own (g b).1 (g b).2)
def TAV.av (g:Nat→Nat×Nat) (t:TAV) {R:Type} (x:t.cons R):AV×R:=
 match t,x with
 | .undef,x=>(.undef,x)
 | .val t,x=>(.val t x.1,x.2)
 | .pp t,x=>(.pp t x.1,x.2)
 | .loc b off,x=>(.loc (g b).1 (g b).2 off,x)
 | .own b,x=>(.own (g b).1 (g b).2,x)
 | .sub b,x=>(.sub (g b).1 (g b).2 x.1.1 x.1.2,x.2)
 | .mapl b,x=>(.mapl (g b).1 (g b).2,x)
 | .iter b,x=>(.iter (g b).1 (g b).2,x)
 | .nils,x=>(.nils,x)
 | .clo k ls,x=>(.clo k ls.length (cloCaps g ls),x)
 | .tr A,x=>(.tr x.1.1 A x.1.2.1 x.1.2.2.1 x.1.2.2.2,x.2)
 | .yld,x=>(.yld x.1,x.2)
 | .row bs,x=>(.agg bs.length (rowAV g bs),x)
 | .nos b,x=>(.nos (g b).1 (g b).2,x)
def avL (g:Nat→Nat×Nat):(l:List TAV)→{R:Type}→consL l R→List AV×R
 | [],_,x=>([],x)
 | t::l,_,x=>let (a,y):=t.av g x;let (as,z):=avL g l y;(a::as,z)
def TB.body (g:Nat→Nat×Nat) (t:TB) {R:Type} (x:t.cons R):Body×R:=
 match t,x with
 | .cells t l,x=>let (as,y):=avL g l x;(.cells t (nthAV as),y)
 | .arr e,x=>(.arr e x.1,x.2)
 | .froz e,x=>(.froz e x.1,x.2)
 | .mp k v,x=>(.mp k v x.1,x.2)
 | .frzm k v,x=>(.frzm k v x.1,x.2)
 | .whole t,x=>(.cells t (nthAV (leafs t x.1)),x.2)
 | .frzc t,x=>(.frzc t x.1,x.2)
 | .it k v,x=>(.it k v x.1.1 x.1.2,x.2)
 | .pool e,x=>(.pool e x.1,x.2)
def slotsL (g:Nat→Nat×Nat):(l:List (Nat×TAV))→{R:Type}→slotDen l R→List (Nat×AV)×R
 | [],_,x=>([],x)
 | p::l,_,x=>let (a,y):=p.2.av g x;let (as,z):=slotsL g l y;((p.1,a)::as,z)
def blksL (g:Nat→Nat×Nat):(l:List (Nat×TB))→blkDen l→List (Nat×Body)
 | [],_=>[]
 | p::l,x=>let (a,y):=p.2.body g x;(p.1,a)::blksL g l y
def look:List (Nat×AV)→Nat→AV
 | [],_=>.undef
 | p::l,i=>if i=p.1 then p.2 else look l i
def lookB:List (Nat×Body)→Nat→ABlk
 | [],_=>⟨0,.dead⟩
 | p::l,i=>if i=p.1 then ⟨0,p.2⟩ else lookB l i
def mkSt (ss:List (Nat×AV)) (bs:List (Nat×Body)):AState:=⟨look ss,lookB bs⟩
def gId (b:Nat):Nat×Nat:=(b,0)
def Shape.st (sh:Shape) (σ:sh.Den):AState:=
 mkSt (slotsL gId sh.slots σ).1 (blksL gId sh.blks (slotsL gId sh.slots σ).2)
def rdVal (H:Nat→ABlk) (t:Ty) (av:AV) {R:Type} (r:Option (R×List Nat)):Option ((t.Den×R)×List Nat):=
 match (asDen t av).run H with
 | some (x,l)=>match r with
  | some (y,m)=>some ((x,y),l++m)
  | none=>none
 | none=>none
def rdPp (t:Ty) (av:AV) {R:Type} (r:Option (R×List Nat)):Option ((t.Den×R)×List Nat):=
 match av with
 | .pp t' x=>match r with
  | some (y,m)=>if h:t'=t then some ((h ▸ x,y),m) else none
  | none=>none
 | _=>none
def rdSub (H:Nat→ABlk) (b:Nat) (av:AV) {R:Type} (r:Option (R×List Nat)):Option (((Nat×Nat)×R)×List Nat):=
 match r with
 | some (y,m)=>match av with
  | .own b' g=>if (b' == b&&g == (H b).gen&&(H b).body.isArr)=true then some (((0,(H b).body.len),y),m) else none
  | .sub b' g lo hi=>if (b' == b&&g == (H b).gen)=true then some (((lo,hi),y),m) else none
  | _=>none
 | none=>none
def rdTr (A:Ty) (av:AV) {R:Type} (r:Option (R×List Nat)):Option (((Nat×(List A.Den→Prop)×List A.Den×Bool)×R)×List Nat):=
 match av with
 | .tr l A' L n st=>match r with
  | some (y,m)=>if h:A'=A then some (((l,h ▸ L,h ▸ n,st),y),m) else none
  | none=>none
 | _=>none
def rdYld (av:AV) {R:Type} (r:Option (R×List Nat)):Option ((Nat×R)×List Nat):=
 match av with
 | .yld l=>match r with
  | some (y,m)=>some ((l,y),m)
  | none=>none
 | _=>none
def okLoc (H:Nat→ABlk) (b off:Nat) (av:AV):Bool:=
 match av with
 | .loc b' g off'=>b' == b&&off' == off&&g == (H b).gen
 | _=>false
def okOwn (H:Nat→ABlk) (b:Nat) (av:AV):Bool:=
 match av with
 | .own b' g=>b' == b&&g == (H b).gen
 | _=>false
def okMapl (H:Nat→ABlk) (b:Nat) (av:AV):Bool:=
 match av with
 | .mapl b' g=>b' == b&&g == (H b).gen
 | _=>false
def okIter (H:Nat→ABlk) (b:Nat) (av:AV):Bool:=
 match av with
 | .iter b' g=>b' == b&&g == (H b).gen
 | _=>false
def okNos (H:Nat→ABlk) (b:Nat) (av:AV):Bool:=
 match av with
 | .loc b' g 0=>b' == b&&g == (H b).gen
 | .nos b' g=>b' == b&&g == (H b).gen
 | .val (.ptr _) none=>true
 | .raw (.pointer none)=>true
 | _=>false
def okNils (av:AV):Bool:=
 match av with
 | .nils=>true
 | _=>false
def okClo (H:Nat→ABlk) (f:Nat→Nat) (k:FuncId) (ls:List (Nat×Nat)) (av:AV):Bool:=
 match av with
 | .clo k' n caps=>k' == k&&n == ls.length&&(List.range n).all fun i=>match ls[i]? with
  | some p=>okLoc H (f p.1) p.2 (caps i)
  | none=>false
 | _=>false
def okRow (H:Nat→ABlk) (f:Nat→Nat) (bs:List Nat) (av:AV):Bool:=
 match av with
 | .agg n h=>n == bs.length&&(List.range n).all fun i=>match bs[i]? with
  | some b=>okOwn H (f b) (h i)
  | none=>false
 | _=>false
def ifB {α:Type} (b:Bool) (r:Option α):Option α:=match b with | true=>r | false=>none
def TAV.rd (H:Nat→ABlk) (f:Nat→Nat) (t:TAV) (av:AV) {R:Type} (r:Option (R×List Nat)):Option (t.cons R×List Nat):=
 match t with
 | .undef=>r
 | .val t=>rdVal H t av r
 | .pp t=>rdPp t av r
 | .loc b off=>ifB (okLoc H (f b) off av) r
 | .own b=>ifB (okOwn H (f b) av) r
 | .sub b=>rdSub H (f b) av r
 | .mapl b=>ifB (okMapl H (f b) av) r
 | .iter b=>ifB (okIter H (f b) av) r
 | .nils=>ifB (okNils av) r
 | .clo k ls=>ifB (okClo H f k ls av) r
 | .tr A=>rdTr A av r
 | .yld=>rdYld av r
 | .row bs=>ifB (okRow H f bs av) r
 | .nos b=>ifB (okNos H (f b) av) r
def rdL (H:Nat→ABlk) (f:Nat→Nat):(l:List TAV)→(Nat→AV)→Nat→{R:Type}→Option (R×List Nat)→Option (consL l R×List Nat)
 | [],_,_,_,r=>r
 | t::l,c,i,_,r=>t.rd H f (c i) (rdL H f l c (i+1) r)
def rdCells (H:Nat→ABlk) (f:Nat→Nat) (t:Ty) (l:List TAV) (b:Body) {R:Type} (r:Option (R×List Nat)):Option (consL l R×List Nat):=
 match b with
 | .cells t' c=>if t'=t∧t.size=l.length then rdL H f l c 0 r else none
 | _=>none
def rdArr (e:Ty) (b:Body) {R:Type} (r:Option (R×List Nat)):Option ((List e.Den×R)×List Nat):=
 match b with
 | .arr e' xs=>match r with
  | some (y,m)=>if h:e'=e then some ((h ▸ xs,y),m) else none
  | none=>none
 | _=>none
def rdMp (k v:Ty) (b:Body) {R:Type} (r:Option (R×List Nat)):Option ((List (k.Den×v.Den)×R)×List Nat):=
 match b with
 | .mp k' v' es=>match r with
  | some (y,m)=>if h:k'=k∧v'=v then some ((h.1 ▸ h.2 ▸ es,y),m) else none
  | none=>none
 | _=>none
def rdIt (k v:Ty) (b:Body) {R:Type} (r:Option (R×List Nat)):Option (((Option (k.Den×v.Den)×List (k.Den×v.Den))×R)×List Nat):=
 match b with
 | .it k' v' c es=>match r with
  | some (y,m)=>if h:k'=k∧v'=v then some (((h.1 ▸ h.2 ▸ c,h.1 ▸ h.2 ▸ es),y),m) else none
  | none=>none
 | _=>none
def rdPool (e:Ty) (b:Body) {R:Type} (r:Option (R×List Nat)):Option ((List (Nat×List e.Den)×R)×List Nat):=
 match b with
 | .pool e' m=>match r with
  | some (y,l)=>if h:e'=e then some ((h ▸ m,y),l) else none
  | none=>none
 | .dead=>match r with
  | some (y,l)=>some (([],y),l)
  | none=>none
 | _=>none
def rdWhole (H:Nat→ABlk) (t:Ty) (b:Body) {R:Type} (r:Option (R×List Nat)):Option ((t.Den×R)×List Nat):=
 match b with
 | .cells t' f=>if t'=t then rdVal H t (.agg t.size f) r else none
 | _=>none
def rdFrzc (H:Nat→ABlk) (t:Ty) (b:Nat) {R:Type} (r:Option (R×List Nat)):Option ((t.Den×R)×List Nat):=
 match (asDen (.ptr t) (.loc b (H b).gen 0)).run H with
 | some (some x,l)=>match r with
  | some (y,m)=>some ((x,y),l++m)
  | none=>none
 | _=>none
def TB.rd (H:Nat→ABlk) (f:Nat→Nat) (t:TB) (b:Nat) {R:Type} (r:Option (R×List Nat)):Option (t.cons R×List Nat):=
 match t with
 | .cells t l=>rdCells H f t l (H b).body r
 | .arr e=>rdArr e (H b).body r
 | .froz e=>rdVal H (.slice e) (.own b (H b).gen) r
 | .mp k v=>rdMp k v (H b).body r
 | .frzm k v=>rdVal H (.map k v) (.mapl b (H b).gen) r
 | .whole t=>rdWhole H t (H b).body r
 | .frzc t=>rdFrzc H t b r
 | .it k v=>rdIt k v (H b).body r
 | .pool e=>rdPool e (H b).body r
def rdB (H:Nat→ABlk) (f:Nat→Nat):(l:List (Nat×TB))→Option (blkDen l×List Nat)
 | []=>some ((),[])
 | p::l=>p.2.rd H f (f p.1) (rdB H f l)
def rdS (H:Nat→ABlk) (f:Nat→Nat):(l:List (Nat×TAV))→(Nat→AV)→{R:Type}→Option (R×List Nat)→Option (slotDen l R×List Nat)
 | [],_,_,r=>r
 | p::l,c,_,r=>p.2.rd H f (c p.1) (rdS H f l c r)
def Shape.owns (sh:Shape):List Nat:=sh.blks.filterMap fun p=>if p.2.isOwn then some p.1 else none
def Shape.rdF (sh:Shape) (f:Nat→Nat) (s:AState):Option (sh.Den×List Nat):=
 match rdS s.blk f sh.slots s.slot (rdB s.blk f sh.blks) with
 | some (σ,fl)=>if sh.owns.all (fun b=>!fl.contains (f b))=true then some (σ,fl) else none
 | none=>none
def lookT:List (Nat×TB)→Nat→Option TB
 | [],_=>none
 | p::l,b=>if b=p.1 then some p.2 else lookT l b
def renRow (s:AState) (i b b' g':Nat):AState:=
 match decide (b'≠b∧g'=(s.blk b').gen),(s.blk b').body with
 | true,.arr e xs=>⟨fun j=>if j=i then .own b ((s.blk b).gen+1) else s.slot j,fun j=>if j=b then ⟨(s.blk b).gen+1,.arr e xs⟩ else if j=b' then ⟨(s.blk b').gen+1,.dead⟩ else s.blk j⟩
 | _,_=>s
def nilSlot (bs:List (Nat×TB)) (s:AState) (i b:Nat):AState:=
 match s.slot i,lookT bs b with
 | .nils,some (.arr e)=>⟨fun j=>if j=i then .own b ((s.blk b).gen+1) else s.slot j,(s.setB b ⟨(s.blk b).gen+1,.arr e []⟩).blk⟩
 | .own b' g',some (.arr _)=>renRow s i b b' g'
 | _,_=>s
def nilCell (bs:List (Nat×TB)) (s:AState) (c j b:Nat):AState:=
 match (s.blk c).body with
 | .cells t f=>match f j,(s.blk b).body,lookT bs b with
  | .nils,.dead,some (.arr e)=>(s.setB b ⟨(s.blk b).gen+1,.arr e []⟩).setB c ⟨(s.blk c).gen,.cells t fun q=>if q=j then .own b ((s.blk b).gen+1) else f q⟩
  | _,_,_=>s
 | _=>s
def nilSlots (bs:List (Nat×TB)):List (Nat×TAV)→AState→AState
 | [],s=>s
 | p::l,s=>nilSlots bs l (match p.2 with | .own b=>nilSlot bs s p.1 b | _=>s)
def nilCells (bs:List (Nat×TB)) (c:Nat):List TAV→Nat→AState→AState
 | [],_,s=>s
 | t::l,j,s=>nilCells bs c l (j+1) (match t with | .own b=>nilCell bs s c j b | _=>s)
def nilBlks (bs:List (Nat×TB)):List (Nat×TB)→AState→AState
 | [],s=>s
 | p::l,s=>nilBlks bs l (match p.2 with | .cells _ ts=>nilCells bs p.1 ts 0 s | _=>s)
def Shape.nilp (sh:Shape) (s:AState):AState:=nilBlks sh.blks sh.blks (nilSlots sh.blks sh.slots s)
def TB.isRow:TB→Bool
 | .arr _ | .froz _=>true
 | _=>false
def Shape.fresh (sh:Shape) (s:AState):Bool:=sh.blks.all fun p=>!(decide (KEEPB≤p.1)&&p.2.isRow)||decide ((s.blk p.1).gen=0)
def Shape.rd (sh:Shape) (s:AState):Option (sh.Den):=
 match sh.fresh (sh.nilp s) with
 | true=>(sh.rdF (fun b=>b) (sh.nilp s)).map (·.1)
 | false=>none
def Shape.rdM {β:Type} (sh:Shape) (s:AState) (k:sh.Den→M β):M β:=
 match sh.rd s with
 | some σ=>k σ
 | none=>M.fail
def TAV.dfl (t:TAV) {R:Type} (r:R):t.cons R:=
 match t with
 | .val t=>(t.dflt,r)
 | .pp t=>(t.dflt,r)
 | .sub _=>((0,0),r)
 | .tr _=>((0,fun _=>False,[],false),r)
 | .yld=>(0,r)
 | .undef | .loc _ _ | .own _ | .mapl _ | .iter _ | .nils | .clo _ _ | .row _ | .nos _=>r
def dflL:(l:List TAV)→{R:Type}→R→consL l R
 | [],_,r=>r
 | t::l,_,r=>t.dfl (dflL l r)
def TB.dfl (t:TB) {R:Type} (r:R):t.cons R:=
 match t with
 | .cells _ l=>dflL l r
 | .arr _=>([],r)
 | .froz _=>([],r)
 | .mp _ _=>([],r)
 | .frzm _ _=>([],r)
 | .whole t=>(t.dflt,r)
 | .frzc t=>(t.dflt,r)
 | .it _ _=>((none,[]),r)
 | .pool _=>([],r)
def dflB:(l:List (Nat×TB))→blkDen l
 | []=>()
 | p::l=>p.2.dfl (dflB l)
def dflS:(l:List (Nat×TAV))→{R:Type}→R→slotDen l R
 | [],_,r=>r
 | p::l,_,r=>p.2.dfl (dflS l r)
def Shape.dfl (sh:Shape):sh.Den:=dflS sh.slots (dflB sh.blks)
structure SC where
 ts:Ty
 tr:Ty
 sh:ts.Den→M tr.Den
 det:Bool
def FC.sc (c:FC):SC:=⟨c.ts,c.tr,c.sh,true⟩
def M.Det {α:Type} (m:M α):Prop:=∀ x y,m.out x→m.out y→x=y
open Classical in
def M.val {α:Type} (m:M α) (d:α):α:=if h:∃ x,m.out x then h.choose else d
def SC.fc (c:SC):FC:=⟨c.ts,c.tr,fun x=>(c.sh x).safe,fun x=>(c.sh x).val c.tr.dflt⟩
structure IOC where
 sin:Shape
 out:Shape
 grp:List (Option Nat)
 nargs:Nat
 sh:sin.Den→M out.Den
structure ITC where
 ts:Ty
 A:Ty
 pre:ts.Den→Prop
 seq:ts.Den→List A.Den
inductive KC where
 | sc (c:SC)
 | io (c:IOC)
 | it (c:ITC)
def dPhi (Φ:Nat→Option FC) (Ψ:Nat→Option KC) (k:Nat):Option FC:=
 match Ψ k with
 | some (.sc c)=>match c.det with
  | true=>some c.fc
  | false=>none
 | some _=>none
 | none=>Φ k
def scOf (Φ:Nat→Option FC) (Ψ:Nat→Option KC) (k:Nat):Option SC:=
 match Ψ k with
 | some (.sc c)=>some c
 | some _=>none
 | none=>(Φ k).map FC.sc
structure PRes where
 α:Type
 d:α
 ob:Prop
 m:M α
 st:α→AState
 gst:Option (Bool→α→AState)
def afterCall (s:AState) (o:Oper) (tr:Ty) (fl:List Nat) (v:AV):AState:=(if tr.pure then s else s.frz fl).set o.dst v
def scI (U:FnTab) (s:AState) (o:Oper) (args:List Operand) (sc:SC):Option PRes:=
 match (asArgs sc.ts ((args.map (opAV U s.slot)).map fun v=>(use v).2)).run s.blk with
 | some (x,fl)=>some ⟨sc.tr.Den,sc.tr.dflt,usesObL (args.map (opAV U s.slot)),sc.sh x,fun y=>afterCall s o sc.tr fl (resV sc.tr y),some fun g y=>afterCall s o sc.tr fl (.whn g (resV sc.tr y))⟩
 | none=>none
def fnI (U:FnTab) (s:AState) (o:Oper) (t:Nat) (args:List Operand):Option PRes:=
 match use (s.slot t) with
 | (ob,.val (.fn a b) f)=>match (asArgs a ((args.map (opAV U s.slot)).map fun v=>(use v).2)).run s.blk with
  | some (x,fl)=>some ⟨b.Den,b.dflt,ob∧usesObL (args.map (opAV U s.slot)),f x,fun y=>afterCall s o b fl (resV b y),some fun g y=>afterCall s o b fl (.whn g (resV b y))⟩
  | none=>none
 | _=>none
def unifT (t:TAV) (av:AV):List (Nat×Nat):=
 match t,av with
 | .loc b' _,.loc b _ _=>[(b',b)]
 | .own b',.own b _=>[(b',b)]
 | .sub b',.own b _=>[(b',b)]
 | .sub b',.sub b _ _ _=>[(b',b)]
 | .mapl b',.mapl b _=>[(b',b)]
 | .iter b',.iter b _=>[(b',b)]
 | .nos b',.loc b _ _=>[(b',b)]
 | .nos b',.nos b _=>[(b',b)]
 | .clo _ ls,.clo _ _ caps=>(List.range ls.length).filterMap fun i=>match ls[i]?,caps i with
  | some p,.loc b _ _=>some (p.1,b)
  | _,_=>none
 | _,_=>[]
def unifL:List TAV→(Nat→AV)→Nat→List (Nat×Nat)
 | [],_,_=>[]
 | t::l,c,i=>unifT t (c i)++unifL l c (i+1)
def lookP:List (Nat×Nat)→Nat→Option Nat
 | [],_=>none
 | p::l,b=>if b=p.1 then some p.2 else lookP l b
def unifB (H:Nat→ABlk):List (Nat×TB)→List (Nat×Nat)→List (Nat×Nat)
 | [],m=>m
 | p::l,m=>unifB H l (m++match p.2,lookP m p.1 with
  | .cells _ ts,some b=>(match (H b).body with | .cells _ c=>unifL ts c 0 | _=>[])
  | _,_=>[])
def unifS (sh:Shape) (s:AState):List (Nat×Nat):=unifB s.blk sh.blks (sh.slots.flatMap fun p=>unifT p.2 (s.slot p.1))
def argSt (s:AState) (avs:List AV):AState:=⟨fun i=>if i=TRS then s.slot TRS else if i<avs.length then avs.getD i .undef else .undef,s.blk⟩
def DEADB:Nat:=99999
def outG (s:AState) (d:Nat) (f:Nat→Nat) (ins:List Nat):List (Nat×TB)→Nat→List (Nat×(Nat×Nat))
 | [],_=>[]
 | p::l,j=>(if p.2.isPool then (p.1,(POOLN,(s.blk POOLN).gen)) else if ins.contains p.1 then (p.1,(f p.1,match p.2 with
   | .cells _ _ | .whole _ | .mp _ _ | .frzc _ | .frzm _ _=>(s.blk (f p.1)).gen
   | .arr _=>if KEEPB≤p.1 then (s.blk (f p.1)).gen else (s.blk (f p.1)).gen+1
   | _=>(s.blk (f p.1)).gen+1)) else (p.1,(50000+10*d+j,(s.blk (50000+10*d+j)).gen+1)))::outG s d f ins l (j+1)
def lookG:List (Nat×(Nat×Nat))→Nat→Nat×Nat
 | [],_=>(DEADB,0)
 | p::l,b=>if b=p.1 then p.2 else lookG l b
def grpAV:List (Option Nat)→(Nat→AV)→Nat→List AV
 | [],_,_=>[]
 | none::l,c,i=>c i::grpAV l c (i+1)
 | some n::l,c,i=>.agg n (fun j=>c (i+j))::grpAV l c (i+n)
def grpRes (l:List AV):AV:=
 match l with
 | [v]=>v
 | l=>.tup l.length (nthAV l)
def ioSt0 (s:AState) (c:IOC) (f:Nat→Nat) (G:List (Nat×(Nat×Nat))) (τ:c.out.Den):AState:=
 ⟨fun i=>if i=TRS then (if c.out.slots.any (fun p=>p.1 == TRS) then look (slotsL (lookG G) c.out.slots τ).1 TRS else if c.sin.slots.any (fun p=>p.1 == TRS) then .undef else s.slot TRS) else s.slot i,fun b=>match G.find? (fun p=>p.2.1 == b) with
  | some p=>⟨p.2.2,(lookB (blksL (lookG G) c.out.blks (slotsL (lookG G) c.out.slots τ).2) p.1).body⟩
  | none=>if (c.sin.owns.map f).contains b then ⟨(s.blk b).gen+1,.dead⟩ else s.blk b⟩
def ioSt (s:AState) (o:Oper) (c:IOC) (f:Nat→Nat) (G:List (Nat×(Nat×Nat))) (τ:c.out.Den):AState:=
 AState.set (ioSt0 s c f G τ) o.dst (grpRes (grpAV c.grp (look (slotsL (lookG G) c.out.slots τ).1) 0))
def poolChk (ins out:List (Nat×TB)) (tr:AV):Bool:=
 (ins++out).all (fun p=>!p.2.isPool||decide (p.1=POOLN))&&(!(ins.any fun p=>p.2.isPool)||out.any fun p=>p.2.isPool)&&(!(out.any fun p=>p.2.isPool)||match tr with | .tr ..=>false | _=>true)
def nodupB (l:List Nat):Bool:=decide l.Nodup
def ioOk (c:IOC) (f:Nat→Nat) (s2:AState) (G:List (Nat×(Nat×Nat))) (d n:Nat):Bool:=
  decide (d < 4000) && decide (c.out.blks.length ≤ 10) && nodupB (c.sin.blks.map (·.1)) && nodupB (c.sin.blks.map fun p => f p.1) && nodupB (G.map (·.1)) && nodupB (G.map (·.2.1)) && (c.sin.blks.map (·.1)).all (fun b => decide (TMAX ≤ b))
        &&!(G.map (·.2.1)).contains DEADB&&(match (s2.blk DEADB).body with | .dead=>true | _=>false)&&c.out.blks.all (fun p=>c.sin.blks.all fun q=>!(p.1 == q.1&&q.2.isOwn)||p.2.kin q.2)&&(decide (n=c.nargs)&&decide (n≤TMAX))
        &&(poolChk c.sin.blks c.out.blks (s2.slot TRS)&&(decide (f POOLN=POOLN)&&(!(s2.blk POOLN).body.isPool||!c.out.slots.any (fun p=>p.1 == TRS))))
def ioAvs (U:FnTab) (s:AState) (args:List Operand):List AV:=(args.map (opAV U s.slot)).map fun v=>(use v).2
def ioF (c:IOC) (s1:AState) (b:Nat):Nat:=if b=POOLN then POOLN else (lookP (unifS c.sin s1) b).getD DEADB
def ioG (s:AState) (o:Oper) (c:IOC) (avs:List AV) (ob:Prop) (n:Nat):Option PRes:=
 match c.sin.rdF (ioF c (argSt s avs)) (argSt s avs) with
 | some (σ,fl)=>match ioOk c (ioF c (argSt s avs)) (s.frz fl) (outG (s.frz fl) (o.dst.getD 0) (ioF c (argSt s avs)) c.sin.owns c.out.blks 0) (o.dst.getD 0) n with
  | true=>some ⟨c.out.Den,c.out.dfl,ob,c.sh σ,fun τ=>ioSt (s.frz fl) o c (ioF c (argSt s avs)) (outG (s.frz fl) (o.dst.getD 0) (ioF c (argSt s avs)) c.sin.owns c.out.blks 0) τ,none⟩
  | false=>none
 | none=>none
def ioI (U:FnTab) (s:AState) (o:Oper) (args:List Operand) (c:IOC):Option PRes:=
 ioG s o c (ioAvs U s args) (usesObL (args.map (opAV U s.slot))) args.length
def cloI (U:FnTab) (Ψ:Nat→Option KC) (s:AState) (o:Oper) (t:Nat) (args:List Operand):Option PRes:=
 match use (s.slot t) with
 | (ob,.clo k n caps)=>match Ψ k with
  | some (.io c)=>ioG s o c (ioAvs U s args++(List.range n).map caps) (ob∧usesObL (args.map (opAV U s.slot))) (args.length+n)
  | _=>none
 | _=>none
def poolOr (e:Ty) (b:Body):Option (List (Nat×List e.Den)):=
 match b with
 | .dead=>some []
 | b=>poolAs e b
def makeI (U:FnTab) (T:Nat→Ty) (s:AState) (o:Oper) (src dst:TypeId) (x:Operand):Option PRes:=
 match s.slot TRS with
 | .tr ..=>none
 | _=>if T dst=.raws (.int .u8)∧T src=.str then (match use (opAV U s.slot x) with
  | (ob,.val .str b)=>match poolOr (.int .u8) (s.blk POOLN).body with
   | some m=>some ⟨Nat,0,ob,M.req (lenLe b.length) (M.any fun id=>id ∉ m.map (·.1)),fun id=>(s.setB POOLN ⟨(s.blk POOLN).gen,.pool (.int .u8) ((id,numsOf b)::m)⟩).set o.dst (.val (.raws (.int .u8)) (id,0,b.length)),none⟩
   | none=>none
  | _=>none) else none
def yldI (U:FnTab) (s:AState) (o:Oper) (t:Nat) (args:List Operand):Option PRes:=
 match s.slot t,s.slot TRS with
 | .yld l',.tr l A L n st=>match (asArgs A ((args.map (opAV U s.slot)).map fun v=>(use v).2)).run s.blk with
  | some (x,fl)=>some ⟨Bool,false,usesObL (args.map (opAV U s.slot)),M.req (l'=l∧st=false∧∃ T,L (n++x::T)) (M.any fun _=>True),
    fun b=>AState.set ⟨fun i=>if i=TRS then .tr l A L (n++[x]) (!b) else s.slot i,(s.frz fl).blk⟩ o.dst (.val .bool b),none⟩
  | none=>none
 | _,_=>none
def rangeI (U:FnTab) (T:Nat→Ty) (s:AState) (o:Oper) (ty:TypeId) (x:Operand):Option PRes:=
 match T ty,o.dst with
 | .map k v,some d=>match use (opAV U s.slot x) with
  | (ob,av)=>match (asDen (.map k v) av).run s.blk with
   | some (es,fl)=>if fl.contains d then none else
    some ⟨Unit,(),ob,M.pure (),fun _=>((s.frz fl).setB d ⟨(s.blk d).gen+1,.it k v none es⟩).set o.dst (.iter d ((s.blk d).gen+1)),none⟩
   | none=>none
 | _,_=>none
def pick {α:Type} (l:List α):M (Option α):=⟨True,fun x=>match x with | none=>l=[] | some a=>a∈l⟩
def pickI {α:Type} (l:List α):M (Option Nat):=⟨True,fun x=>match x with | none=>l=[] | some i=>i<l.length⟩
def nxtN (i:Option Nat):Nat:=match i with | none=>0 | some _=>2
def nxtC {α:Type} (c:Option α) (rest:List α) (i:Option Nat):Option α:=match i with | none=>c | some i=>rest[i]?
def nxtR {α:Type} (rest:List α) (i:Option Nat):List α:=match i with | none=>rest | some i=>rest.eraseIdx i
def nextI (U:FnTab) (s:AState) (o:Oper) (x:Operand) (str:Bool):Option PRes:=
 match str,opAV U s.slot x with
 | false,.iter b g=>if (s.blk b).gen=g then (match (s.blk b).body with
  | .it k v c rest=>some ⟨Option Nat,none,True,pickI rest,fun i=>(s.setB b ⟨g,.it k v (nxtC c rest i) (nxtR rest i)⟩).set o.dst (.tup (Nat.succ (nxtN i)) (nthAV [.val .bool i.isSome])),none⟩
  | _=>none) else none
 | _,_=>none
def entryI (U:FnTab) (s:AState) (o:Oper) (x:Operand):Option PRes:=
 match opAV U s.slot x with
 | .iter b g=>if (s.blk b).gen=g then (match (s.blk b).body with
  | .it k v c _=>some ⟨Unit,(),True,M.req (c.isSome=true) (M.pure ()),fun _=>s.set o.dst (.tup 2 (nthAV [.val k ((c.map (·.1)).getD k.dflt),.val v ((c.map (·.2)).getD v.dflt)])),none⟩
  | _=>none) else none
 | _=>none
def nilEqI (U:FnTab) (T:Nat→Ty) (s:AState) (o:Oper) (op:BinOp) (ty:TypeId) (x y:Operand):Option PRes:=
 match T ty,opAV U s.slot y with
 | .slice e,.nils=>match (asDen (.slice e) (use (opAV U s.slot x)).2).run s.blk with
  | some (xs,_)=>match op with
   | .eql=>some ⟨Bool,false,(use (opAV U s.slot x)).1,M.any fun b=>b=true→xs=[],fun b=>s.set o.dst (.val .bool b),none⟩
   | .neq=>some ⟨Bool,false,(use (opAV U s.slot x)).1,M.any fun b=>b=true→xs=[],fun b=>s.set o.dst (.val .bool (!b)),none⟩
   | _=>none
  | none=>none
 | _,_=>none
def progI (U:FnTab) (T:Nat→Ty) (Φ:Nat→Option FC) (Ψ:Nat→Option KC) (s:AState) (o:Oper):Option PRes:=
 match o.op with
 | .call c=>match c.callee with
  | .value f=>match f with
   | .func k=>match Ψ k with
    | some (.io c')=>ioI U s o c.args.toList c'
    | _=>match scOf Φ Ψ k with
     | some sc=>scI U s o c.args.toList sc
     | none=>none
   | .tmp t=>match fnI U s o t c.args.toList with
    | some r=>some r
    | none=>match cloI U Ψ s o t c.args.toList with
     | some r=>some r
     | none=>yldI U s o t c.args.toList
   | _=>none
  | _=>none
 | .range ty x=>rangeI U T s o ty x
 | .next x str=>nextI U s o x str
 | .entry x=>entryI U s o x
 | .convert src dst x=>makeI U T s o src dst x
 | .binOp op ty x y _=>nilEqI U T s o op ty x y
 | _=>none
def gdo {α:Type} (g:Bool) (m:M α) (d:α):M α:=if g=true then m else M.pure d
def rq {β:Type} (b:Bool) (p:Prop) (m:M β):M β:=match b with | true=>m | false=>M.req p m
def gwb (o:Oper) (dv:AV) (l:List (Nat×ABlk)):Option (List (Nat×ABlk)×AV):=
 match l with
 | []=>some ([],dv)
 | p::l'=>match o.op with
  | .makeFunc ..=>some (p::l',dv)
  | .buildSlice ..=>match l',dv,p.2.body with
   | [],.own b' g',.arr e xs=>if b'=p.1∧g'=p.2.gen then some ([(p.1,⟨p.2.gen,.dead⟩)],.val (.slice e) xs) else none
   | _,_,_=>none
  | _=>none
def offV (wb:List (Nat×ABlk)) (dv:AV):AV:=
 match dv with
 | .own b _=>match wb.find? (fun p=>p.1 == b) with
  | some (_,⟨_,.arr e xs⟩)=>.val (.slice e) xs
  | _=>dv
 | _=>dv
abbrev Tags:=List (Nat×(Nat×Bool))
def isKey (ops:Array Oper) (j d:Nat):Bool:=match ops[j]? with | some o=>(match o.dst with | some e=>e == d | none=>false) | none=>false
def tagged (tg:Tags) (t:Nat) (k:Nat×Bool):Bool:=tg.any fun p=>p.1 == t&&(p.2.1 == k.1&&p.2.2 == k.2)
def tagUp (ops:Array Oper) (tg:Tags) (o:Oper):Tags:=
 match o.dst with
 | none=>tg
 | some d=>match o.guard with
  | some k=>if isKey ops k.1 d=true then tg.filter fun p=>p.1 != d&&!isKey ops p.2.1 d else (d,k)::tg.filter fun p=>p.1 != d&&!isKey ops p.2.1 d
  | none=>tg.filter fun p=>p.1 != d&&!isKey ops p.2.1 d
def met (ρ:Operand→AV) (tg:Tags) (gk:Option (Nat×Bool)) (x:Operand):Bool:=
 !(ρ x).isWhn||(match x,gk with | .tmp t,some k=>tagged tg t k | _,_=>false)
def metP (ops:Array Oper) (tg:Tags) (c x:Operand) (want:Bool):Bool:=
 match c,x with
 | .tmp c,.tmp t=>tg.any fun p=>p.1 == t&&(isKey ops p.2.1 c&&p.2.2 == want)
 | _,_=>false
def allM (ρ:Operand→AV) (tg:Tags) (gk:Option (Nat×Bool)) (o:Oper):Bool:=o.op.operands.toList.all (met ρ tg gk)
def obM (ρ:Operand→AV) (ops:Array Oper) (tg:Tags) (gk:Option (Nat×Bool)) (o:Oper):Bool:=
 match o.op with
 | .pick c a b=>met ρ tg gk c&&((met ρ tg gk a||metP ops tg c a true)&&(met ρ tg gk b||metP ops tg c b false))
 | _=>allM ρ tg gk o
def dvM (ρ:Operand→AV) (tg:Tags) (gk:Option (Nat×Bool)) (o:Oper) (dv:AV):Bool:=
 !dv.isWhn||(match o.op with | .move x=>met ρ tg gk x | _=>false)
def tmp?:Operand→Option Nat
 | .tmp t=>some t
 | _=>none
def fuse3 (o o2 o3:Oper):Option (Oper×Nat×Nat):=
 match o.op with
 | .mapEntry ty m x=>match o2.op with
  | .extract e 1=>match o3.op with
   | .entryStore ty' m' e' y=>match o.dst,o2.dst,o3.dst with
    | some d1,some d2,none=>if tmp? e=some d1∧tmp? e'=some d2∧ty'=ty∧(tmp? m').isSome=true∧tmp? m'=tmp? m∧(tmp? y).isSome=true∧tmp? m≠some d1∧tmp? m≠some d2∧tmp? y≠some d1∧tmp? y≠some d2∧o.guard.isNone=true∧o2.guard.isNone=true∧o3.guard.isNone=true
     then some ({ o3 with op:=.mapUpdate ty m x y },d1,d2) else none
    | _,_,_=>none
   | _=>none
  | _=>none
 | _=>none
def fuseMap (o:Oper) (os:List Oper):Option (Oper×Nat×Nat):=
 match os with
 | o2::o3::_=>fuse3 o o2 o3
 | _=>none
def selM {β:Type}:Nat→Int→(Nat→M β)→M β
 | 0,_,_=>M.fail
 | 1,_,k=>k 0
 | n+2,v,k=>if v=((n+1:Nat):Int) then k (n+1) else selM (n+1) v k
theorem selM_ret {β:Type} {O:β→Prop} {k:Nat→M β} {v:Int}:∀ {n:Nat},M.Ret (selM n v k) O→0≤v→v<(n:Int)→M.Ret (k v.toNat) O
 | 0,h,_,_=>h.1.elim
 | 1,h,h0,h1=>by
  have:v.toNat=0:=by omega
  rw [this];exact h
 | n+2,h,h0,h1=>by
  unfold selM at h
  split at h
  ·rename_i e
   have:v.toNat=n+1:=by omega
   rw [this];exact h
  ·exact selM_ret h h0 (by omega)
def regI {β:Type} (U:FnTab) (T:Nat→Ty) (Φ:Nat→Option FC) (Ψ:Nat→Option KC) (ops:Array Oper):List Oper→Tags→AState→(AState→M β)→M β
 | [],_,s,k=>k s
 | o::os,tg,s,k=>
  match fuseMap o os with
  | some (oU,d1,d2)=>match os with
   | _::_::os'=>match (opV U T Φ (opAV U s.slot) oU).run s.blk with
    | some res=>M.req res.ob (M.req res.c (regI U T Φ Ψ ops os' [] (((s.app none res).set (some d1) .undef).set (some d2) .undef) k))
    | none=>M.fail
   | _=>M.fail
  | none=>
  match guardV s.slot ops o.guard with
  | none=>M.fail
  | some none=>match (opV U T Φ (opAV U s.slot) o).run s.blk with
   | some res=>rq (obM (opAV U s.slot) ops tg none o) res.ob (rq (cF (opAV U s.slot) o) res.c (regI U T Φ Ψ ops os (tagUp ops tg o) (s.app o.dst res) k))
   | none=>match progI U T Φ Ψ s o with
    | some pr=>rq (obF (opAV U s.slot) o) pr.ob (M.bind pr.m fun y=>regI U T Φ Ψ ops os [] (pr.st y) k)
    | none=>M.fail
  | some (some g)=>match (opV U T Φ (opAV U s.slot) o).run s.blk with
   | some ⟨ob,c,dv,wb⟩=>match gwb o dv wb with
    | some (wb',dv')=>rq (obM (opAV U s.slot) ops tg o.guard o&&(cF (opAV U s.slot) o&&dvM (opAV U s.slot) tg o.guard o dv')) (g=true→ob∧(c∧(use dv').1)) (regI U T Φ Ψ ops os (tagUp ops tg o) ((s.setBs wb').set o.dst (.whn g (use dv').2)) k)
    | none=>if g=true then M.req ob (M.req c (regI U T Φ Ψ ops os [] (s.app o.dst ⟨ob,c,dv,wb⟩) k)) else regI U T Φ Ψ ops os [] (s.set o.dst (.whn false (offV wb (use dv).2))) k
   | none=>match progI U T Φ Ψ s o with
    | some pr=>match pr.gst with
     | some gs=>rq (allM (opAV U s.slot) tg o.guard o) (g=true→pr.ob) (M.bind (gdo g pr.m pr.d) fun y=>regI U T Φ Ψ ops os (tagUp ops tg o) (gs g y) k)
     | none=>if g=true then M.req pr.ob (M.bind pr.m fun y=>regI U T Φ Ψ ops os [] (pr.st y) k) else regI U T Φ Ψ ops os [] (s.set o.dst (.whn false (use ((pr.st pr.d).slot (o.dst.getD 0))).2)) k
    | none=>M.fail
def reqs {β:Type}:List Prop→M β→M β
 | [],m=>m
 | p::l,m=>M.req p (reqs l m)
def sufGo (cl:List (List Nat)):Nat→Nat
 | 0=>0
 | n+1=>if (List.range n).all (fun i=>(cl.getD n []).contains i)=true then sufGo cl n else n+1
def entOps (oL oB oE oX oS:Oper):Bool:=
 match oL.op,oB.op,oE.op with
 | .lookup ty m x false,.binOp .add _ (.tmp t) (.const (.int k c)) _,.mapEntry ty' m' x'=>match oL.dst,oB.dst,fuse3 oE oX oS with
  | some dL,some dB,some (_,d1,d2)=>decide (t=dL∧ty'=ty∧InR k c∧tmp? m'=tmp? m∧tmp? x'=tmp? x∧dL≠dB∧dL≠d1∧dL≠d2∧dB≠d1∧dB≠d2∧d1≠d2∧
    (tmp? m).isSome=true∧(tmp? x).isSome=true∧tmp? m≠some dL∧tmp? m≠some dB∧tmp? m≠some d1∧tmp? m≠some d2∧tmp? x≠some dL∧tmp? x≠some dB∧tmp? x≠some d1∧tmp? x≠some d2∧oL.guard.isNone=true∧oB.guard.isNone=true)
  | _,_,_=>false
 | _,_,_=>false
def entEnd (ops:List Oper):Bool:=
 match ops.drop (ops.length - 5) with
 | [oL,oB,oE,oX,oS]=>entOps oL oB oE oX oS&&(edgesOk ops&&((List.range 5).all fun q=>(List.range (ops.length - 5)).all fun i=>((closure ops).getD (ops.length - 5+q) []).contains i)&&
   ((closure ops).getD (ops.length - 5+1) []).contains (ops.length - 5)&&((closure ops).getD (ops.length - 5+3) []).contains (ops.length - 5+2)&&((List.range 4).all fun q=>((closure ops).getD (ops.length - 5+4) []).contains (ops.length - 5+q))&&
   (direct oE).all (fun i=>decide (i<ops.length - 5))&&(direct oX).all (fun i=>decide (i<ops.length - 5)||decide (i=ops.length - 5+2)))
 | _=>false
def drawSuf (ops:List Oper):Nat:=if entEnd ops=true then ops.length - 5 else sufGo (closure ops) ops.length
def M.alts {α:Type} (l:List (M α)):M α:=⟨∀ m∈l,m.safe,fun x=>∃ m∈l,m.out x⟩
def readyL (ops:List Oper) (done:List Nat):List Nat:=(List.range ops.length).filter fun i=>!done.contains i&&match ops[i]? with | some o=>(direct o).all fun j=>done.contains j | none=>false
def exts (ops:List Oper):Nat→List Nat→List (List Nat)
 | 0,_=>[[]]
 | f+1,done=>match readyL ops done with
  | []=>[[]]
  | l=>l.flatMap fun i=>(exts ops f (i::done)).map (i::·)
def goodE (ops:List Oper):Nat→List Nat→Bool
 | 0,done=>(readyL ops done).isEmpty
 | f+1,done=>(readyL ops done).all fun i=>goodE ops f (i::done)
def stepE {β:Type} (U:FnTab) (T:Nat→Ty) (Φ:Nat→Option FC) (Ψ:Nat→Option KC) (ops:Array Oper) (o:Oper) (s:AState) (k:AState→M β):M β:=
 match o.guard with
 | some _=>M.fail
 | none=>match (opV U T Φ (opAV U s.slot) o).run s.blk with
  | some res=>rq (obM (opAV U s.slot) ops [] none o) res.ob (rq (cF (opAV U s.slot) o) res.c (k (s.app o.dst res)))
  | none=>match progI U T Φ Ψ s o with
   | some pr=>rq (obF (opAV U s.slot) o) pr.ob (M.bind pr.m fun y=>k (pr.st y))
   | none=>M.fail
def runE {β:Type} (U:FnTab) (T:Nat→Ty) (Φ:Nat→Option FC) (Ψ:Nat→Option KC) (ops:Array Oper):List Nat→AState→(AState→M β)→M β
 | [],s,k=>k s
 | i::is,s,k=>match ops[i]? with
  | some o=>stepE U T Φ Ψ ops o s fun s'=>runE U T Φ Ψ ops is s' k
  | none=>M.fail
def drawE {β:Type} (U:FnTab) (T:Nat→Ty) (Φ:Nat→Option FC) (Ψ:Nat→Option KC) (ops:Array Oper) (s:AState) (k:AState→M β):M β:=
 match goodE ops.toList ops.size [] with
 | true=>M.alts ((exts ops.toList ops.size []).map fun l=>runE U T Φ Ψ ops l s k)
 | false=>M.fail
def midOk (ops:List Oper) (n:Nat):Bool:=
 edgesOk ops&&(decide (n<ops.length)&&(List.range ops.length).all fun j=>(decide (j<n)||(List.range n).all fun i=>((closure ops).getD j []).contains i)&&(decide (j≤n)||((closure ops).getD j []).contains n))
def pairsFrom (cl:List (List Nat)) (n:Nat) (l:List SR):Bool:=
 (List.range l.length).all fun j=>(List.range j).all fun i=>match l[i]?,l[j]? with
  | some a,some b=>(cl.getD (n+j) []).contains (n+i)||a.apart b
  | _,_=>false
def stepsN (U:FnTab) (T:Nat→Ty) (Φ:Nat→Option FC) (ops:Array Oper):List Oper→AState→Nat
 | [],_=>0
 | o::os,s=>match stepS U T Φ ops s o with
  | none=>0
  | some r=>stepsN U T Φ ops os (r.upd s)+1
def drawM {β:Type} (U:FnTab) (T:Nat→Ty) (Φ:Nat→Option FC) (Ψ:Nat→Option KC) (ops:Array Oper) (n:Nat) (s:AState) (k:AState→M β):M β:=
 match steps U T Φ ops (ops.toList.take n) s with
 | some (l,s1)=>match drawOk (ops.toList.take n) l with
  | true=>match ops[n]? with
   | some o=>match guardV s1.slot ops o.guard with
    | some none=>match progI U T Φ Ψ s1 o with
     | some pr=>reqs (l.flatMap SR.cs) (rq (obF (opAV U s1.slot) o) pr.ob (M.bind pr.m fun y=>match steps U T Φ ops (ops.toList.drop (n+1)) (pr.st y) with
      | some (l2,s2)=>match pairsFrom (closure ops.toList) (n+1) l2 with
       | true=>reqs (l2.flatMap SR.cs) (k s2)
       | false=>M.fail
      | none=>M.fail))
     | none=>M.fail
    | _=>M.fail
   | none=>M.fail
  | false=>M.fail
 | none=>M.fail
def drawI {β:Type} (U:FnTab) (T:Nat→Ty) (Φ:Nat→Option FC) (Ψ:Nat→Option KC) (ops:Array Oper) (s:AState) (k:AState→M β):M β:=
 match steps U T Φ ops ops.toList s with
 | some (l,s')=>match drawOk ops.toList l with
  | true=>reqs (l.flatMap SR.cs) (k s')
  | false=>M.fail
 | none=>match steps U T Φ ops (ops.toList.take (drawSuf ops.toList)) s with
  | some (l,s')=>match drawOk (ops.toList.take (drawSuf ops.toList)) l&&edgesOk ops.toList with
   | true=>reqs (l.flatMap SR.cs) (regI U T Φ Ψ ops (ops.toList.drop (drawSuf ops.toList)) [] s' k)
   | false=>M.fail
  | none=>match midOk ops.toList (stepsN U T Φ ops ops.toList s) with
   | true=>drawM U T Φ Ψ ops (stepsN U T Φ ops ops.toList s) s k
   | false=>drawE U T Φ Ψ ops s k
inductive Ann where
 | leaf
 | seq (a b:Ann)
 | join (sh:Shape) (a b:Ann)
 | cond (a b:Ann)
 | block (a:Ann)
 | loop (sh:Shape) (a:Ann)
 | scope (a:Ann)
 | range (sh rin rout:Shape) (a b:Ann)
 | unr (a b:Ann)
 | split (i off n:Nat) (a:Ann)
 | num (i n:Nat) (a:Ann)
def Ann.flat:Ann→Bool
 | .leaf=>true
 | .seq a b=>a.flat&&b.flat
 | .join _ a b=>a.flat&&b.flat
 | .cond a b=>a.flat&&b.flat
 | .block a=>a.flat
 | .loop _ a=>a.flat
 | .scope a=>a.flat
 | .range ..=>false
 | .unr a b=>a.flat&&b.flat
 | .split _ _ _ a=>a.flat
 | .num _ _ a=>a.flat
def Ann.isUnr:Ann→Bool
 | .unr ..=>true
 | .leaf=>true
 | _=>false
inductive Ex where
 | normal
 | exit (id:Nat)
 | ret
def Ex.the:Ex→Exit
 | .normal=>.normal
 | .exit id=>.exit id
 | .ret=>.ret
open M (Step)
def thenK {β:Type} (k:Ex→AState→M β) (f:AState→M β) (e:Ex) (s:AState):M β:=
 match e with
 | .normal=>f s
 | .exit id=>k (.exit id) s
 | .ret=>k .ret s
def doneK {σ β:Type} (k:Ex→AState→M β) (f:AState→M (Step σ β)) (e:Ex) (s:AState):M (Step σ β):=
 match e with
 | .normal=>f s
 | .exit id=>M.bind (k (.exit id) s) fun r=>M.pure (.done r)
 | .ret=>M.bind (k .ret s) fun r=>M.pure (.done r)
def blockK {β:Type} (id:Nat) (k:Ex→AState→M β) (e:Ex) (s:AState):M β:=
 match e with
 | .normal=>k .normal s
 | .exit id'=>if id'=id then k .normal s else k (.exit id') s
 | .ret=>k .ret s
def Step.go {σ β:Type} (f:σ→M β) (st:Step σ β):M β:=
 match st with
 | .next x=>f x
 | .done r=>M.pure r
def condM {β:Type} (v:AV) (m n:M β):M β:=
 match v with
 | .val .bool t=>if t=true then m else n
 | .whn g (.val .bool t)=>M.req (g=true) (if t=true then m else n)
 | _=>M.fail
def splitV (s:AState) (i off:Nat):Option (Int×(Nat→AState)):=
 match s.slot i with
 | .loc b _ o=>match (s.blk b).body with
  | .cells t f=>match f (o+off) with
   | .val (.int kd) x=>some (x,fun j=>⟨s.slot,fun b'=>if b'=b then ⟨(s.blk b).gen,.cells t fun q=>if q=o+off then .val (.int kd) (j:Int) else f q⟩ else s.blk b'⟩)
   | _=>none
  | _=>none
 | _=>none
theorem splitV_self {s:AState} {i off:Nat} {x:Int} {f:Nat→AState} (h:splitV s i off=some (x,f)) (h0:0≤x):f x.toNat=s:=by
 unfold splitV at h
 split at h
 ·rename_i b g o hs
  split at h
  ·rename_i t f' hb
   split at h
   ·rename_i kd x' hx
    simp only [Option.some.injEq,Prod.mk.injEq] at h
    obtain ⟨rfl,rfl⟩:=h
    have e0:((x'.toNat:Nat):Int)=x':=by omega
    have e1:(fun q=>if q=o+off then AV.val (.int kd) (show (Ty.int kd).Den from ((x'.toNat:Nat):Int)) else f' q)=f':=by
     funext q
     split
     ·rename_i e;rw [e,hx,e0]
     ·rfl
    have e2:(fun b'=>if b'=b then (⟨(s.blk b).gen,.cells t f'⟩:ABlk) else s.blk b')=s.blk:=by
     funext q
     split
     ·rename_i e;rw [e,←hb]
     ·rfl
    show (⟨s.slot,fun b'=>if b'=b then ⟨(s.blk b).gen,.cells t fun q=>if q=o+off then AV.val (.int kd) (show (Ty.int kd).Den from ((x'.toNat:Nat):Int)) else f' q⟩ else s.blk b'⟩:AState)=s
    rw [e1,e2]
   ·cases h
  ·cases h
 ·cases h
def numV (s:AState) (i:Nat):Option (Int×(Nat→AState)):=
 match s.slot i with
 | .val (.int kd) x=>some (x,fun n=>⟨fun j=>if j=i then .val (.int kd) (n:Int) else s.slot j,s.blk⟩)
 | _=>none
theorem numV_self {s:AState} {i n:Nat} {x:Int} {f:Nat→AState} (h:numV s i=some (x,f)) (h0:x=(n:Int)):f n=s:=by
 unfold numV at h
 split at h
 ·rename_i kd x' hs
  simp only [Option.some.injEq,Prod.mk.injEq] at h
  obtain ⟨rfl,rfl⟩:=h
  have e1:(fun j=>if j=i then AV.val (.int kd) (show (Ty.int kd).Den from (n:Int)) else s.slot j)=s.slot:=by
   funext j
   split
   ·rename_i e;rw [e,hs,←h0]
   ·rfl
  show (⟨fun j=>if j=i then AV.val (.int kd) (show (Ty.int kd).Den from (n:Int)) else s.slot j,s.blk⟩:AState)=s
  rw [e1]
 ·cases h
def rounds {σ α:Type} (body:σ→α→M (Ex×σ)):List α→σ→M (Ex×σ)
 | [],σ=>M.pure (.normal,σ)
 | x::xs,σ=>M.bind (body σ x) fun p=>match p.1 with
  | .normal=>rounds body xs p.2
  | .exit id=>M.pure (.exit id,p.2)
  | .ret=>M.pure (.ret,p.2)
def setPs (A:Ty) (x:A.Den):List Tmp→Nat→(Nat→AV)→Nat→AV
 | [],_,f=>f
 | p::ps,i,f=>setPs A x ps (i+1) (fun j=>if j=p then resAV A x i else f j)
def roundSt (s:AState) (A:Ty) (x:A.Den) (ps:List Tmp):AState:=⟨fun i=>if i=TRS then s.slot TRS else setPs A x ps 0 s.slot i,s.blk⟩
def roundIO (rin rout:Shape):IOC:=⟨rin,rout,[],0,fun _=>M.fail⟩
def roundI {τ:Type} (sh rin rout:Shape) (A:Ty) (ps:List Tmp) (σ:sh.Den) (x:A.Den) (run:AState→M (τ×rout.Den)):M (τ×sh.Den):=
 match rin.rdF (ioF (roundIO rin rout) (roundSt (sh.st σ) A x ps)) (roundSt (sh.st σ) A x ps) with
 | some (ρ,fl)=>match ioOk (roundIO rin rout) (ioF (roundIO rin rout) (roundSt (sh.st σ) A x ps)) ((sh.st σ).frz fl) (outG ((sh.st σ).frz fl) 0 (ioF (roundIO rin rout) (roundSt (sh.st σ) A x ps)) rin.owns rout.blks 0) 0 0 with
  | true=>M.bind (run (rin.st ρ)) fun p=>sh.rdM (ioSt0 ((sh.st σ).frz fl) (roundIO rin rout) (ioF (roundIO rin rout) (roundSt (sh.st σ) A x ps)) (outG ((sh.st σ).frz fl) 0 (ioF (roundIO rin rout) (roundSt (sh.st σ) A x ps)) rin.owns rout.blks 0) p.2) fun σ'=>M.pure (p.1,σ')
  | false=>M.fail
 | none=>M.fail
def rangeOk (sh rout:Shape) (A:Ty) (ps:List Tmp) (nt:Nat):Bool:=
 (rout.slots.isEmpty&&(!rout.blks.any (fun p=>p.2.isPool)&&!sh.blks.any (fun p=>p.2.isPool)))&&!sh.slots.any (fun p=>p.1 == TRS)&&decide (A≠.unit)&&decide (ps.length=resN A)&&ps.all fun p=>decide (p<nt)
def onlyNormal {β:Type} (f:AState→M β) (e:Ex) (s:AState):M β:=
 match e with
 | .normal=>f s
 | .exit _=>M.fail
 | .ret=>M.fail
def exC {β:Type} (n:M β) (x:Nat→M β) (r:M β) (e:Ex):M β:=
 match e with
 | .normal=>n
 | .exit id=>x id
 | .ret=>r
def exK {β:Type} (k:Ex→AState→M β) (e:Ex) (s:AState):M β:=exC (k .normal s) (fun id=>k (.exit id) s) (k .ret s) e
theorem exK_eq {β:Type} (k:Ex→AState→M β) (e:Ex) (s:AState):exK k e s=k e s:=by cases e<;>rfl
def codeI (U:FnTab) (T:Nat→Ty) (Φ:Nat→Option FC) (Ψ:Nat→Option KC):Ann→{β:Type}→Code→AState→(Ex→AState→M β)→M β
 | .seq a b,_,c,s,k=>match c with
  | .seq x y=>codeI U T Φ Ψ a x s (thenK k fun s'=>codeI U T Φ Ψ b y s' k)
  | _=>M.fail
 | .join sh a b,β,c,s,k=>match c with
  | .seq x y=>M.bind (codeI U T Φ Ψ a (β:=Step sh.Den β) x s (doneK k fun s'=>sh.rdM s' fun σ=>M.pure (.next σ))) (Step.go fun σ=>codeI U T Φ Ψ b y (sh.st σ) k)
  | _=>M.fail
 | .cond a b,_,c,s,k=>match c with
  | .cond c x y=>condM (opAV U s.slot c) (codeI U T Φ Ψ a x s k) (codeI U T Φ Ψ b y s k)
  | _=>M.fail
 | .block a,_,c,s,k=>match c with
  | .block id c=>codeI U T Φ Ψ a c s (blockK id k)
  | _=>M.fail
 | .loop sh a,β,c,s,k=>match c with
  | .loop c=>sh.rdM s fun σ=>M.loop (fun σ=>codeI U T Φ Ψ a (β:=Step sh.Den β) c (sh.st σ) (doneK k fun s'=>sh.rdM s' fun σ'=>M.pure (.next σ'))) σ
  | _=>M.fail
 | .unr a b,_,c,s,k=>match c with
  | .loop x=>match b.isUnr with
   | true=>codeI U T Φ Ψ a x s (thenK k fun s'=>codeI U T Φ Ψ b (.loop x) s' k)
   | false=>M.fail
  | _=>M.fail
 | .scope a,_,c,s,k=>match c with
  | .scope c=>codeI U T Φ Ψ a c s k
  | _=>M.fail
 | .num i n a,_,c,s,k=>match numV s i with
  | some (x,f)=>M.req (x=(n:Int)) (codeI U T Φ Ψ a c (f n) k)
  | none=>M.fail
 | .split i off n a,_,c,s,k=>match splitV s i off with
  | some (x,f)=>M.req (0≤x∧x<(n:Int)) (selM n x fun j=>codeI U T Φ Ψ a c (f j) k)
  | none=>M.fail
 | .range sh rin rout a b,_,c,s,k=>match c with
  | .rangeFunc g ps assign body=>match opAV U s.slot g with
   | .bnd kf n fs=>match Ψ kf with
    | some (.it ic)=>match (asArgs ic.ts ((List.range n).map fs)).run s.blk with
     | some (x,fl)=>match rangeOk sh rout ic.A ps.toList TMAX&&(a.flat&&b.flat) with
      | true=>sh.rdM (s.frz fl) fun σ=>M.req (ic.pre x) (M.bind (rounds (fun σ y=>roundI sh rin rout ic.A ps.toList σ y fun s1=>
       codeI U T Φ Ψ a (β:=Ex×rout.Den) assign s1 (onlyNormal fun s2=>codeI U T Φ Ψ b body s2 fun e s3=>rout.rdM s3 fun τ=>M.pure (e,τ))) (ic.seq x) σ) fun p=>exK k p.1 (sh.st p.2))
      | false=>M.fail
     | none=>M.fail
    | _=>M.fail
   | .val (.it A) S=>match rangeOk sh rout A ps.toList TMAX&&(a.flat&&b.flat) with
    | true=>sh.rdM s fun σ=>M.bind (M.any S) fun L=>M.bind (rounds (fun σ y=>roundI sh rin rout A ps.toList σ y fun s1=>
     codeI U T Φ Ψ a (β:=Ex×rout.Den) assign s1 (onlyNormal fun s2=>codeI U T Φ Ψ b body s2 fun e s3=>rout.rdM s3 fun τ=>M.pure (e,τ))) L σ) fun p=>exK k p.1 (sh.st p.2)
    | false=>M.fail
   | _=>M.fail
  | _=>M.fail
 | .leaf,_,c,s,k=>match c with
  | .region _ ops draw=>match draw with
   | true=>drawI U T (dPhi Φ Ψ) Ψ ops s (k .normal)
   | false=>regI U T Φ Ψ ops ops.toList [] s (k .normal)
  | .skip=>k .normal s
  | .label _=>k .normal s
  | .exit id=>k (.exit id) s
  | .ret=>k .ret s
  | _=>M.fail
def codeOk (nt:Nat):Code→Bool
 | .region _ ops _=>ops.toList.all fun o=>dstOk o nt
 | .seq a b=>codeOk nt a&&codeOk nt b
 | .cond _ a b=>codeOk nt a&&codeOk nt b
 | .block _ a=>codeOk nt a
 | .loop a=>codeOk nt a
 | .scope a=>codeOk nt a
 | .rangeFunc _ ps a b=>ps.toList.all (fun p=>decide (p<nt))&&(codeOk nt a&&codeOk nt b)
 | .skip=>true
 | .label _=>true
 | .exit _=>true
 | .ret=>true
 | _=>false
end Go.Fer
namespace Go.Fer
open Go.RowKit
def Kind (x y:Body):Prop:=(y.isCells=true→x.isCells=true)∧(y.isArr=true→x.isArr=true∧y.len=x.len∧y.esz=x.esz)∧(y.isMap=true→x.isMap=true)∧(y.isIt=true→x.isIt=true)∧∀ k,y.owned k=true→x.owned k=true
theorem Kind.refl (x:Body):Kind x x:=⟨id,fun h=>⟨h,rfl,rfl⟩,id,id,fun _=>id⟩
theorem Kind.dead (x:Body):Kind x .dead:=⟨fun h=>(by cases h),fun h=>(by cases h),fun h=>(by cases h),fun h=>(by cases h),fun _ h=>(by cases h)⟩
def Reg (f:Nat→Nat) (H H':Nat→ABlk):Prop:=∀ b,(H' b).gen=0∧Kind (H (f b)).body (H' b).body
section
variable {P:Program} {H H':Nat→ABlk} {κ:Nat→KB} {F F':Nat→Prop} {w:World} {f:Nat→Nat}
theorem RA_loc0 (hg:Reg f H H') {b off:Nat} {v:Value} (h:RA P H κ F w (.loc (f b) (H (f b)).gen off) v):RA P H' (fun b=>κ (f b)) F' w (.loc b 0 off) v:=
 ⟨⟨Nat.zero_le _,h.1.2⟩,fun _ hc=>h.2 rfl ((hg b).2.1 hc)⟩
def RdOk (P:Program) (H H':Nat→ABlk) (κ:Nat→KB) (f:Nat→Nat) (F F':Nat→Prop) (w:World) {R:Type} (r:Option (R×List Nat)) (l:List Nat) (av av':AV) (y:R):Prop:=
 ∃ m,r=some (y,m)∧(∀ b∈m,b∈l)∧(FzIn H κ F' l→∀ v,RA P H κ F w av v→RA P H' (fun b=>κ (f b)) F' w av' v)
theorem RdOk.same {R:Type} {r:Option (R×List Nat)} {l:List Nat} {av av':AV} {y:R} (h:r=some (y,l)) (k:∀ v,RA P H κ F w av v→RA P H' (fun b=>κ (f b)) F' w av' v):RdOk P H H' κ f F F' w r l av av' y:=
 ⟨l,h,fun _ hb=>hb,fun _=>k⟩
theorem ifB_some {α:Type} {b:Bool} {r:Option α} {x:α} (h:ifB b r=some x):b=true∧r=some x:=by
 cases b with
 | true=>exact ⟨rfl,h⟩
 | false=>cases h
theorem rdVal_some {t:Ty} {av:AV} {R:Type} {r:Option (R×List Nat)} {z:t.Den×R} {l:List Nat} (h:rdVal H t av r=some (z,l)):∃ l1 m,(asDen t av).run H=some (z.1,l1)∧r=some (z.2,m)∧l=l1++m:=by
 unfold rdVal at h
 split at h
 ·rename_i x l1 hx
  split at h
  ·rename_i y m
   cases h
   exact ⟨l1,m,hx,rfl,rfl⟩
  ·cases h
 ·cases h
theorem rdPp_some {t:Ty} {av:AV} {R:Type} {r:Option (R×List Nat)} {z:t.Den×R} {l:List Nat} (h:rdPp t av r=some (z,l)):av=.pp t z.1∧r=some (z.2,l):=by
 unfold rdPp at h
 split at h
 ·rename_i t' x
  split at h
  ·rename_i y m
   split at h
   ·rename_i e
    subst e
    cases h
    exact ⟨rfl,rfl⟩
   ·cases h
  ·cases h
 ·cases h
theorem rdSub_some {b:Nat} {av:AV} {R:Type} {r:Option (R×List Nat)} {z:(Nat×Nat)×R} {l:List Nat} (h:rdSub H b av r=some (z,l)) :
  r=some (z.2,l)∧(av=.sub b (H b).gen z.1.1 z.1.2∨(av=.own b (H b).gen∧(H b).body.isArr=true∧z.1=(0,(H b).body.len))):=by
 unfold rdSub at h
 split at h
 ·rename_i y m
  split at h
  ·rename_i b' g
   split at h
   ·rename_i hc
    simp only [Bool.and_eq_true,beq_iff_eq] at hc
    obtain ⟨⟨rfl,rfl⟩,hc⟩:=hc
    cases h
    exact ⟨rfl,.inr ⟨rfl,hc,rfl⟩⟩
   ·cases h
  ·rename_i b' g lo hi
   split at h
   ·rename_i hc
    simp only [Bool.and_eq_true,beq_iff_eq] at hc
    obtain ⟨rfl,rfl⟩:=hc
    cases h
    exact ⟨rfl,.inl rfl⟩
   ·cases h
  ·cases h
 ·cases h
theorem rdTr_some {A:Ty} {av:AV} {R:Type} {r:Option (R×List Nat)} {z:(Nat×(List A.Den→Prop)×List A.Den×Bool)×R} {l:List Nat} (h:rdTr A av r=some (z,l)) :
  r=some (z.2,l)∧av=.tr z.1.1 A z.1.2.1 z.1.2.2.1 z.1.2.2.2:=by
 unfold rdTr at h
 split at h
 ·rename_i l' A' L n st
  split at h
  ·rename_i y m
   split at h
   ·rename_i e
    subst e
    cases h
    exact ⟨rfl,rfl⟩
   ·cases h
  ·cases h
 ·cases h
theorem rdYld_some {av:AV} {R:Type} {r:Option (R×List Nat)} {z:Nat×R} {l:List Nat} (h:rdYld av r=some (z,l)):r=some (z.2,l)∧av=.yld z.1:=by
 unfold rdYld at h
 split at h
 ·split at h
  ·cases h;exact ⟨rfl,rfl⟩
  ·cases h
 ·cases h
theorem okLoc_some {b off:Nat} {av:AV} (h:okLoc H b off av=true):av=.loc b (H b).gen off:=by
 unfold okLoc at h
 split at h
 ·simp only [Bool.and_eq_true,beq_iff_eq] at h
  obtain ⟨⟨rfl,rfl⟩,rfl⟩:=h
  rfl
 ·cases h
theorem okOwn_some {b:Nat} {av:AV} (h:okOwn H b av=true):av=.own b (H b).gen:=by
 unfold okOwn at h
 split at h
 ·simp only [Bool.and_eq_true,beq_iff_eq] at h
  obtain ⟨rfl,rfl⟩:=h
  rfl
 ·cases h
theorem okMapl_some {b:Nat} {av:AV} (h:okMapl H b av=true):av=.mapl b (H b).gen:=by
 unfold okMapl at h
 split at h
 ·simp only [Bool.and_eq_true,beq_iff_eq] at h
  obtain ⟨rfl,rfl⟩:=h
  rfl
 ·cases h
theorem okIter_some {b:Nat} {av:AV} (h:okIter H b av=true):av=.iter b (H b).gen:=by
 unfold okIter at h
 split at h
 ·simp only [Bool.and_eq_true,beq_iff_eq] at h
  obtain ⟨rfl,rfl⟩:=h
  rfl
 ·cases h
theorem okNos_ok (hg:Reg f H H') {b:Nat} {av:AV} (h:okNos H (f b) av=true) {v:Value} (hv:RA P H κ F w av v):RA P H' (fun b=>κ (f b)) F' w (.nos b 0) v:=by
 unfold okNos at h
 split at h
 ·simp only [Bool.and_eq_true,beq_iff_eq] at h
  obtain ⟨rfl,rfl⟩:=h
  exact ⟨⟨Nat.zero_le _,hv.1.2⟩,fun _ hc=>.inr (hv.2 rfl ((hg b).2.1 hc))⟩
 ·simp only [Bool.and_eq_true,beq_iff_eq] at h
  obtain ⟨rfl,rfl⟩:=h
  exact ⟨⟨Nat.zero_le _,hv.1.2⟩,fun _ hc=>hv.2 rfl ((hg b).2.1 hc)⟩
 ·have hx:=((RV_leaf rfl).1 hv).2
  rcases hx with ⟨e,_⟩ | ⟨p,y,ds,_,e,_⟩
  ·have e:=(List.cons.inj e).1
   subst e
   exact ⟨⟨Nat.zero_le _,rfl⟩,fun _ _=>.inl rfl⟩
  ·cases e
 ·have hv:v=.pointer none:=hv
  subst hv
  exact ⟨⟨Nat.zero_le _,rfl⟩,fun _ _=>.inl rfl⟩
 ·cases h
theorem okNils_some {av:AV} (h:okNils av=true):av=.nils:=by
 unfold okNils at h
 split at h
 ·rfl
 ·cases h
theorem okClo_ok (hg:Reg f H H') {k:FuncId} {ls:List (Nat×Nat)} {av:AV} (h:okClo H f k ls av=true) {v:Value} (hv:RA P H κ F w av v):RA P H' (fun b=>κ (f b)) F' w (.clo k ls.length (cloCaps gId ls)) v:=by
 unfold okClo at h
 split at h
 ·rename_i k' n caps
  simp only [Bool.and_eq_true,beq_iff_eq] at h
  obtain ⟨⟨rfl,rfl⟩,e⟩:=h
  obtain ⟨vs,h1,h2,h3⟩:=hv
  refine ⟨vs,h1,h2,fun i hi=>?_⟩
  have he:=List.all_eq_true.1 e i (by simpa using hi)
  have hv:=h3 i hi
  rw [show ls[i]?=some ls[i] by simp] at he
  rw [okLoc_some he] at hv
  have:cloCaps gId ls i=.loc ls[i].1 0 ls[i].2:=by simp [cloCaps,nthAV,List.getD_eq_getElem?_getD,hi,gId]
  rw [this]
  exact RA_loc0 hg hv
 ·cases h
theorem okRow_ok (hg:Reg f H H') {bs:List Nat} {av:AV} (h:okRow H f bs av=true) {v:Value} (hv:RA P H κ F w av v):RA P H' (fun b=>κ (f b)) F' w (.agg bs.length (rowAV gId bs)) v:=by
 unfold okRow at h
 split at h
 ·rename_i n h'
  simp only [Bool.and_eq_true,beq_iff_eq] at h
  obtain ⟨rfl,e⟩:=h
  obtain ⟨vs,h1,h2,h3⟩:=hv
  refine ⟨vs,h1,h2,fun i hi=>?_⟩
  have he:=List.all_eq_true.1 e i (by simpa using hi)
  obtain ⟨hv,hc⟩:=h3 i hi
  refine ⟨?_,hc⟩
  rw [show bs[i]?=some bs[i] by simp] at he
  rw [okOwn_some he] at hv
  have:rowAV gId bs i=.own bs[i] 0:=by simp [rowAV,nthAV,List.getD_eq_getElem?_getD,hi,gId]
  rw [this]
  refine ⟨⟨Nat.zero_le _,hv.1.2⟩,fun _ hc=>?_⟩
  obtain ⟨k1,k2,_⟩:=(hg bs[i]).2.2.1 hc
  rw [k2]
  exact hv.2 rfl k1
 ·cases h
theorem rd_ok (hB:∀ b,HB P H κ F w b) (hF:∀ r,F r→F' r) (hg:Reg f H H') (t:TAV) {av:AV} {R:Type} {r:Option (R×List Nat)} {z:t.cons R} {l:List Nat} (h:t.rd H f av r=some (z,l)) :
  RdOk P H H' κ f F F' w r l av (t.av gId z).1 (t.av gId z).2:=by
 cases t with
 | undef=>exact .same h fun _ _=>by simp only [TAV.av,RA]
 | val t=>
  obtain ⟨l1,m,hx,rfl,rfl⟩:=rdVal_some h
  exact ⟨m,rfl,fun b hb=>List.mem_append_right _ hb,fun hl v hv=>asDen_ok hB hF hx hl.left hv⟩
 | pp t=>
  obtain ⟨rfl,rfl⟩:=rdPp_some h
  exact .same rfl fun v ⟨p,ds,h1,h2,h3⟩=>⟨p,ds,h1,h2.mono hF (Ext.refl _ _),RC_mono _ hF (Ext.refl _ _) h3⟩
 | loc b off=>
  obtain ⟨h1,h2⟩:=ifB_some h
  obtain rfl:=okLoc_some h1
  exact .same h2 fun v hv=>RA_loc0 hg hv
 | own b=>
  obtain ⟨h1,h2⟩:=ifB_some h
  obtain rfl:=okOwn_some h1
  refine .same h2 fun v hv=>⟨⟨Nat.zero_le _,hv.1.2⟩,fun _ hc=>?_⟩
  obtain ⟨k1,k2,_⟩:=(hg b).2.2.1 hc
  simp only [gId]
  rw [k2]
  exact hv.2 rfl k1
 | sub b=>
  obtain ⟨h1,h2⟩:=rdSub_some h
  refine .same h1 fun v hv=>?_
  rcases h2 with rfl | ⟨rfl,harr,h3⟩
  ·refine ⟨⟨Nat.zero_le _,hv.1.2⟩,fun _ hc=>?_⟩
   obtain ⟨k1,k2,k3⟩:=(hg b).2.2.1 hc
   simp only [gId] at k2 k3 ⊢
   rw [k2,k3]
   exact hv.2 rfl k1
  ·refine ⟨⟨Nat.zero_le _,hv.1.2⟩,fun _ hc=>?_⟩
   obtain ⟨k1,k2,k3⟩:=(hg b).2.2.1 hc
   have:=hv.2 rfl k1
   simp only [gId] at k2 k3 ⊢
   rw [k2,k3,h3]
   refine ⟨⟨Nat.zero_le _,Nat.le_refl _⟩,?_⟩
   rw [this]
   unfold KB.slice
   cases hn:(κ (f b)).isNil with
   | true=>exact .inl ⟨hn,rfl⟩
   | false=>exact .inr ⟨hn,(κ (f b)).off,by simp,by simp,fun _=>by simp⟩
 | mapl b=>
  obtain ⟨h1,h2⟩:=ifB_some h
  obtain rfl:=okMapl_some h1
  exact .same h2 fun v hv=>⟨⟨Nat.zero_le _,hv.1.2⟩,fun _ hc=>hv.2 rfl ((hg b).2.2.2.1 hc)⟩
 | iter b=>
  obtain ⟨h1,h2⟩:=ifB_some h
  obtain rfl:=okIter_some h1
  exact .same h2 fun v hv=>⟨⟨Nat.zero_le _,hv.1.2⟩,fun _ hc=>hv.2 rfl ((hg b).2.2.2.2.1 hc)⟩
 | nils=>
  obtain ⟨h1,h2⟩:=ifB_some h
  obtain rfl:=okNils_some h1
  exact .same h2 fun v hv=>hv
 | clo k ls=>
  obtain ⟨h1,h2⟩:=ifB_some h
  exact .same h2 fun v hv=>okClo_ok hg h1 hv
 | row bs=>
  obtain ⟨h1,h2⟩:=ifB_some h
  exact .same h2 fun v hv=>okRow_ok hg h1 hv
 | nos b=>
  obtain ⟨h1,h2⟩:=ifB_some h
  exact .same h2 fun v hv=>okNos_ok hg h1 hv
 | tr A=>
  obtain ⟨h1,rfl⟩:=rdTr_some h
  exact .same h1 fun v hv=>hv
 | yld=>
  obtain ⟨h1,rfl⟩:=rdYld_some h
  exact .same h1 fun v hv=>hv
theorem rdL_ok (hB:∀ b,HB P H κ F w b) (hF:∀ r,F r→F' r) (hg:Reg f H H'):∀ (ts:List TAV) {c:Nat→AV} {i:Nat} {R:Type} {r:Option (R×List Nat)} {z:consL ts R} {l:List Nat},rdL H f ts c i r=some (z,l)→
  ∃ m,r=some ((avL gId ts z).2,m)∧(∀ b∈m,b∈l)∧(FzIn H κ F' l→∀ j,j<ts.length→∀ v,RA P H κ F w (c (i+j)) v→RA P H' (fun b=>κ (f b)) F' w ((avL gId ts z).1.getD j .undef) v):=by
 intro ts
 induction ts with
 | nil=>intro c i R r z l h;exact ⟨l,h,fun _ hb=>hb,fun _ j hj=>by cases hj⟩
 | cons t ts ih=>
  intro c i R r z l h
  obtain ⟨m1,h1,h2,h3⟩:=rd_ok (F':=F') (H':=H') hB hF hg t h
  obtain ⟨m2,k1,k2,k4⟩:=ih h1
  refine ⟨m2,k1,fun b hb=>h2 b (k2 b hb),fun hl j hj v hv=>?_⟩
  cases j with
  | zero=>exact h3 hl v hv
  | succ j=>
   have:=k4 (fun b hb=>hl b (h2 b hb)) j (by simpa using hj) v (by rw [show i+1+j=i+(j+1) by omega];exact hv)
   simpa [avL] using this
theorem rdS_ok (hB:∀ b,HB P H κ F w b) (hF:∀ r,F r→F' r) (hg:Reg f H H'):∀ (ts:List (Nat×TAV)) {c:Nat→AV} {R:Type} {r:Option (R×List Nat)} {z:slotDen ts R} {l:List Nat},rdS H f ts c r=some (z,l)→
  ∃ m,r=some ((slotsL gId ts z).2,m)∧(∀ b∈m,b∈l)∧(FzIn H κ F' l→∀ i v,RA P H κ F w (c i) v→RA P H' (fun b=>κ (f b)) F' w (look (slotsL gId ts z).1 i) v):=by
 intro ts
 induction ts with
 | nil=>intro c R r z l h;exact ⟨l,h,fun _ hb=>hb,fun _ _ _ _=>by simp only [slotsL,look,RA]⟩
 | cons p ts ih=>
  intro c R r z l h
  obtain ⟨m1,h1,h2,h3⟩:=rd_ok (F':=F') (H':=H') hB hF hg p.2 h
  obtain ⟨m2,k1,k2,k4⟩:=ih h1
  refine ⟨m2,k1,fun b hb=>h2 b (k2 b hb),fun hl i v hv=>?_⟩
  simp only [slotsL,look]
  split
  ·rename_i e
   rw [e] at hv
   exact h3 hl v hv
  ·exact k4 (fun b hb=>hl b (h2 b hb)) i v hv
theorem rd_shape (t:TAV) {av:AV} {R:Type} {r:Option (R×List Nat)} {z:t.cons R} {l:List Nat} (h:t.rd H f av r=some (z,l)):∃ m,r=some ((t.av gId z).2,m)∧∀ b∈m,b∈l:=by
 cases t with
 | undef=>exact ⟨l,h,fun _ h=>h⟩
 | val t=>obtain ⟨_,m,_,h2,h3⟩:=rdVal_some h;exact ⟨m,h2,fun b hb=>h3 ▸ List.mem_append_right _ hb⟩
 | pp t=>exact ⟨l,(rdPp_some h).2,fun _ h=>h⟩
 | sub b=>exact ⟨l,(rdSub_some h).1,fun _ h=>h⟩
 | tr A=>exact ⟨l,(rdTr_some h).1,fun _ h=>h⟩
 | yld=>exact ⟨l,(rdYld_some h).1,fun _ h=>h⟩
 | loc b off=>exact ⟨l,(ifB_some h).2,fun _ h=>h⟩
 | own b=>exact ⟨l,(ifB_some h).2,fun _ h=>h⟩
 | mapl b=>exact ⟨l,(ifB_some h).2,fun _ h=>h⟩
 | iter b=>exact ⟨l,(ifB_some h).2,fun _ h=>h⟩
 | nils=>exact ⟨l,(ifB_some h).2,fun _ h=>h⟩
 | clo k ls=>exact ⟨l,(ifB_some h).2,fun _ h=>h⟩
 | row bs=>exact ⟨l,(ifB_some h).2,fun _ h=>h⟩
 | nos b=>exact ⟨l,(ifB_some h).2,fun _ h=>h⟩
theorem rdL_shape:∀ (ts:List TAV) {c:Nat→AV} {i:Nat} {R:Type} {r:Option (R×List Nat)} {z:consL ts R} {l:List Nat},rdL H f ts c i r=some (z,l)→∃ m,r=some ((avL gId ts z).2,m)∧∀ b∈m,b∈l:=by
 intro ts
 induction ts with
 | nil=>intro c i R r z l h;exact ⟨l,h,fun _ h=>h⟩
 | cons t ts ih=>
  intro c i R r z l h
  obtain ⟨m,h1,h2⟩:=rd_shape t h
  obtain ⟨m',h3,h4⟩:=ih h1
  exact ⟨m',h3,fun b hb=>h2 b (h4 b hb)⟩
theorem rdS_shape:∀ (ts:List (Nat×TAV)) {c:Nat→AV} {R:Type} {r:Option (R×List Nat)} {z:slotDen ts R} {l:List Nat},rdS H f ts c r=some (z,l)→∃ m,r=some ((slotsL gId ts z).2,m)∧∀ b∈m,b∈l:=by
 intro ts
 induction ts with
 | nil=>intro c R r z l h;exact ⟨l,h,fun _ h=>h⟩
 | cons p ts ih=>
  intro c R r z l h
  obtain ⟨m,h1,h2⟩:=rd_shape p.2 h
  obtain ⟨m',h3,h4⟩:=ih h1
  exact ⟨m',h3,fun b hb=>h2 b (h4 b hb)⟩
theorem rd_closed (t:TAV) {av:AV} {R:Type} {r:Option (R×List Nat)} {z:t.cons R} {l:List Nat} (h:t.rd H f av r=some (z,l)) (hr:∀ y m,r=some (y,m)→Closed H m):Closed H l:=by
 cases t with
 | undef=>exact hr _ _ h
 | val t=>obtain ⟨_,m,h1,h2,rfl⟩:=rdVal_some h;exact (asDen_closed h1).append (hr _ _ h2)
 | pp t=>exact hr _ _ (rdPp_some h).2
 | sub b=>exact hr _ _ (rdSub_some h).1
 | tr A=>exact hr _ _ (rdTr_some h).1
 | yld=>exact hr _ _ (rdYld_some h).1
 | loc b off=>exact hr _ _ (ifB_some h).2
 | own b=>exact hr _ _ (ifB_some h).2
 | mapl b=>exact hr _ _ (ifB_some h).2
 | iter b=>exact hr _ _ (ifB_some h).2
 | nils=>exact hr _ _ (ifB_some h).2
 | clo k ls=>exact hr _ _ (ifB_some h).2
 | row bs=>exact hr _ _ (ifB_some h).2
 | nos b=>exact hr _ _ (ifB_some h).2
theorem rdL_closed:∀ (ts:List TAV) {c:Nat→AV} {i:Nat} {R:Type} {r:Option (R×List Nat)} {z:consL ts R} {l:List Nat},rdL H f ts c i r=some (z,l)→(∀ y m,r=some (y,m)→Closed H m)→Closed H l:=by
 intro ts
 induction ts with
 | nil=>intro c i R r z l h hr;exact hr _ _ h
 | cons t ts ih=>intro c i R r z l h hr;exact rd_closed t h fun y m hm=>ih hm hr
theorem rdS_closed:∀ (ts:List (Nat×TAV)) {c:Nat→AV} {R:Type} {r:Option (R×List Nat)} {z:slotDen ts R} {l:List Nat},rdS H f ts c r=some (z,l)→(∀ y m,r=some (y,m)→Closed H m)→Closed H l:=by
 intro ts
 induction ts with
 | nil=>intro c R r z l h hr;exact hr _ _ h
 | cons p ts ih=>intro c R r z l h hr;exact rd_closed p.2 h fun y m hm=>ih hm hr
theorem rdCells_some {t:Ty} {ts:List TAV} {bd:Body} {R:Type} {r:Option (R×List Nat)} {z:consL ts R} {l:List Nat} (h:rdCells H f t ts bd r=some (z,l)):∃ c,bd=.cells t c∧t.size=ts.length∧rdL H f ts c 0 r=some (z,l):=by
 unfold rdCells at h
 split at h
 ·split at h
  ·rename_i hc
   obtain ⟨rfl,hc⟩:=hc
   exact ⟨_,rfl,hc,h⟩
  ·cases h
 ·cases h
theorem rdArr_some {e:Ty} {bd:Body} {R:Type} {r:Option (R×List Nat)} {z:List e.Den×R} {l:List Nat} (h:rdArr e bd r=some (z,l)):r=some (z.2,l)∧bd=.arr e z.1:=by
 unfold rdArr at h
 split at h
 ·split at h
  ·split at h
   ·rename_i he
    subst he
    cases h
    exact ⟨rfl,rfl⟩
   ·cases h
  ·cases h
 ·cases h
theorem rdMp_some {k v:Ty} {bd:Body} {R:Type} {r:Option (R×List Nat)} {z:List (k.Den×v.Den)×R} {l:List Nat} (h:rdMp k v bd r=some (z,l)):r=some (z.2,l)∧bd=.mp k v z.1:=by
 unfold rdMp at h
 split at h
 ·split at h
  ·split at h
   ·rename_i he
    obtain ⟨he1,he2⟩:=he
    subst he1
    subst he2
    cases h
    exact ⟨rfl,rfl⟩
   ·cases h
  ·cases h
 ·cases h
theorem rdIt_some {k v:Ty} {bd:Body} {R:Type} {r:Option (R×List Nat)} {z:(Option (k.Den×v.Den)×List (k.Den×v.Den))×R} {l:List Nat} (h:rdIt k v bd r=some (z,l)):r=some (z.2,l)∧bd=.it k v z.1.1 z.1.2:=by
 unfold rdIt at h
 split at h
 ·split at h
  ·split at h
   ·rename_i he
    obtain ⟨he1,he2⟩:=he
    subst he1
    subst he2
    cases h
    exact ⟨rfl,rfl⟩
   ·cases h
  ·cases h
 ·cases h
theorem rdPool_some {e:Ty} {bd:Body} {R:Type} {r:Option (R×List Nat)} {z:List (Nat×List e.Den)×R} {l:List Nat} (h:rdPool e bd r=some (z,l)):r=some (z.2,l)∧(bd=.pool e z.1∨(bd=.dead∧z.1=[])):=by
 unfold rdPool at h
 split at h
 ·split at h
  ·split at h
   ·rename_i he
    subst he
    cases h
    exact ⟨rfl,.inl rfl⟩
   ·cases h
  ·cases h
 ·split at h
  ·cases h
   exact ⟨rfl,.inr ⟨rfl,rfl⟩⟩
  ·cases h
 ·cases h
theorem Kind.pool (x:Body) (e:Ty) (m:List (Nat×List e.Den)):Kind x (.pool e m):=⟨fun h=>(by cases h),fun h=>(by cases h),fun h=>(by cases h),fun h=>(by cases h),fun _ h=>(by cases h)⟩
theorem rdWhole_some {t:Ty} {bd:Body} {R:Type} {r:Option (R×List Nat)} {z:t.Den×R} {l:List Nat} (h:rdWhole H t bd r=some (z,l)):∃ c,bd=.cells t c∧rdVal H t (.agg t.size c) r=some (z,l):=by
 unfold rdWhole at h
 split at h
 ·split at h
  ·rename_i he
   subst he
   exact ⟨_,rfl,h⟩
  ·cases h
 ·cases h
theorem rdFrzc_some {t:Ty} {b:Nat} {R:Type} {r:Option (R×List Nat)} {z:t.Den×R} {l:List Nat} (h:rdFrzc H t b r=some (z,l)):∃ l1 m,(asDen (.ptr t) (.loc b (H b).gen 0)).run H=some (some z.1,l1)∧r=some (z.2,m)∧l=l1++m:=by
 unfold rdFrzc at h
 split at h
 ·rename_i x l1 hx
  split at h
  ·cases h
   exact ⟨l1,_,hx,rfl,rfl⟩
  ·cases h
 ·cases h
theorem own_den {e:Ty} {b:Nat} {xs:List e.Den} {l:List Nat} (h:(asDen (.slice e) (.own b (H b).gen)).run H=some (xs,l)):(H b).body=.arr e xs∨(H b).body=.froz e xs:=by
 simp only [asDen,asTop,Ty.isLeaf,if_true,asLeaf,Rd.run_get,Rd.run_ret] at h
 split at h
 ·rename_i e' ys hb
  simp only [Option.map_eq_some_iff,Prod.mk.injEq] at h
  obtain ⟨z,hz,rfl,_⟩:=h
  obtain ⟨ee,rfl⟩:=castDen_some hz
  cases ee
  exact .inl hb
 ·rename_i e' ys hb
  simp only [Option.map_eq_some_iff,Prod.mk.injEq] at h
  obtain ⟨z,hz,rfl,_⟩:=h
  obtain ⟨ee,rfl⟩:=castDen_some hz
  cases ee
  exact .inr hb
 ·cases h
theorem map_den {k v:Ty} {b:Nat} {xs:List (k.Den×v.Den)} {l:List Nat} (h:(asDen (.map k v) (.mapl b (H b).gen)).run H=some (xs,l)):(H b).body=.mp k v xs∨(H b).body=.frzm k v xs:=by
 simp only [asDen,asTop,Ty.isLeaf,if_true,asLeaf,Rd.run_get,Rd.run_ret] at h
 split at h
 ·rename_i k' v' ys hb
  simp only [Option.map_eq_some_iff,Prod.mk.injEq] at h
  obtain ⟨z,hz,rfl,_⟩:=h
  obtain ⟨ee,rfl⟩:=castDen_some hz
  cases ee
  exact .inl hb
 ·rename_i k' v' ys hb
  simp only [Option.map_eq_some_iff,Prod.mk.injEq] at h
  obtain ⟨z,hz,rfl,_⟩:=h
  obtain ⟨ee,rfl⟩:=castDen_some hz
  cases ee
  exact .inr hb
 ·cases h
theorem loc_den {t:Ty} {b:Nat} {x:Option t.Den} {l:List Nat} (h:(asDen (.ptr t) (.loc b (H b).gen 0)).run H=some (x,l)):(H b).body.isCells=true:=by
 simp only [asDen,asTop,asPtr,Rd.run_get,and_self,if_true] at h
 split at h
 ·rename_i hb;rw [hb];rfl
 ·rename_i hb;rw [hb];rfl
 ·cases h
theorem TB.rd_kind (t:TB) {b:Nat} {R:Type} {r:Option (R×List Nat)} {z:t.cons R} {l:List Nat} (h:t.rd H f b r=some (z,l)) :
  (∃ m,r=some ((t.body gId z).2,m)∧∀ c∈m,c∈l)∧Kind (H b).body (t.body gId z).1∧∀ k,(t.body gId z).1.owned k=true→t.isOwn=true:=by
 cases t with
 | cells t ts=>
  obtain ⟨c,e,hs,h⟩:=rdCells_some h
  refine ⟨rdL_shape ts h,?_,fun _ _=>rfl⟩
  rw [e]
  exact ⟨fun _=>rfl,fun h=>(by cases h),fun h=>(by cases h),fun h=>(by cases h),fun _ _=>rfl⟩
 | arr e=>
  obtain ⟨h1,h2⟩:=rdArr_some h
  refine ⟨⟨l,h1,fun _ h=>h⟩,?_,fun _ _=>rfl⟩
  rw [h2]
  exact Kind.refl _
 | froz e=>
  obtain ⟨l1,m,h1,h2,rfl⟩:=rdVal_some h
  refine ⟨⟨m,h2,fun _ h=>List.mem_append_right _ h⟩,?_,fun _ h=>(by cases h)⟩
  rcases own_den h1 with e | e<;>rw [e]
  ·exact ⟨fun h=>(by cases h),fun _=>⟨rfl,rfl,rfl⟩,fun h=>(by cases h),fun h=>(by cases h),fun _ h=>(by cases h)⟩
  ·exact Kind.refl _
 | mp k v=>
  obtain ⟨h1,h2⟩:=rdMp_some h
  refine ⟨⟨l,h1,fun _ h=>h⟩,?_,fun _ _=>rfl⟩
  rw [h2]
  exact Kind.refl _
 | frzm k v=>
  obtain ⟨l1,m,h1,h2,rfl⟩:=rdVal_some h
  refine ⟨⟨m,h2,fun _ h=>List.mem_append_right _ h⟩,?_,fun _ h=>(by cases h)⟩
  rcases map_den h1 with e | e<;>rw [e]
  ·exact ⟨fun h=>(by cases h),fun h=>(by cases h),fun _=>rfl,fun h=>(by cases h),fun _ h=>(by cases h)⟩
  ·exact Kind.refl _
 | whole t=>
  obtain ⟨c,e,h⟩:=rdWhole_some h
  obtain ⟨l1,m,h1,h2,rfl⟩:=rdVal_some h
  refine ⟨⟨m,h2,fun _ h=>List.mem_append_right _ h⟩,?_,fun _ _=>rfl⟩
  rw [e]
  exact ⟨fun _=>rfl,fun h=>(by cases h),fun h=>(by cases h),fun h=>(by cases h),fun _ _=>rfl⟩
 | frzc t=>
  obtain ⟨l1,m,h1,h2,rfl⟩:=rdFrzc_some h
  refine ⟨⟨m,h2,fun _ h=>List.mem_append_right _ h⟩,?_,fun _ h=>(by cases h)⟩
  exact ⟨fun _=>loc_den h1,fun h=>(by cases h),fun h=>(by cases h),fun h=>(by cases h),fun _ h=>(by cases h)⟩
 | it k v=>
  obtain ⟨h1,h2⟩:=rdIt_some h
  refine ⟨⟨l,h1,fun _ h=>h⟩,?_,fun _ _=>rfl⟩
  rw [h2]
  exact Kind.refl _
 | pool e=>
  obtain ⟨h1,h2⟩:=rdPool_some h
  exact ⟨⟨l,h1,fun _ h=>h⟩,Kind.pool _ _ _,fun _ h=>(by cases h)⟩
theorem TB.rd_closed (t:TB) {b:Nat} {R:Type} {r:Option (R×List Nat)} {z:t.cons R} {l:List Nat} (h:t.rd H f b r=some (z,l)) (hr:∀ y m,r=some (y,m)→Closed H m):Closed H l:=by
 cases t with
 | cells t ts=>obtain ⟨c,e,hs,h⟩:=rdCells_some h;exact rdL_closed ts h hr
 | arr e=>exact hr _ _ (rdArr_some h).1
 | froz e=>obtain ⟨l1,m,h1,h2,rfl⟩:=rdVal_some h;exact (asDen_closed h1).append (hr _ _ h2)
 | mp k v=>exact hr _ _ (rdMp_some h).1
 | frzm k v=>obtain ⟨l1,m,h1,h2,rfl⟩:=rdVal_some h;exact (asDen_closed h1).append (hr _ _ h2)
 | whole t=>obtain ⟨c,e,h⟩:=rdWhole_some h;obtain ⟨l1,m,h1,h2,rfl⟩:=rdVal_some h;exact (asDen_closed h1).append (hr _ _ h2)
 | frzc t=>obtain ⟨l1,m,h1,h2,rfl⟩:=rdFrzc_some h;exact (asDen_closed h1).append (hr _ _ h2)
 | it k v=>exact hr _ _ (rdIt_some h).1
 | pool e=>exact hr _ _ (rdPool_some h).1
theorem TB.rd_body (hB:∀ b,HB P H κ F w b) (hF:∀ r,F r→F' r) (hg:Reg f H H') (t:TB) {b:Nat} {R:Type} {r:Option (R×List Nat)} {z:t.cons R} {l:List Nat} (h:t.rd H f b r=some (z,l)) (hl:FzIn H κ F' l) :
  HBody P H' (fun b=>κ (f b)) F' w (κ b) (t.body gId z).1:=by
 have hb:=hB b
 unfold HB at hb
 cases t with
 | cells t ts=>
  obtain ⟨c,e,hs,h⟩:=rdCells_some h
  rw [e] at hb
  obtain ⟨cs,T,k1,k2,k3⟩:=hb
  obtain ⟨m,_,_,k4⟩:=rdL_ok (H':=H') hB hF hg ts h
  refine ⟨cs,T,k1,k2,fun i hi=>⟨?_,(k3 i hi).2⟩⟩
  have:=k4 hl i (by omega) _ (by rw [Nat.zero_add];exact (k3 i hi).1)
  exact this
 | arr e=>
  rw [(rdArr_some h).2] at hb
  refine ⟨hb.1,fun hn=>?_⟩
  obtain ⟨cs,T,h1,h2,h3,h4,h5⟩:=hb.2 hn
  exact ⟨cs,T,h1,h2,h3,h4,h5.mono hF (Ext.refl _ _)⟩
 | froz e=>
  obtain ⟨l1,m,h1,h2,rfl⟩:=rdVal_some h
  have hden:=own_den h1
  have hrv:=asDen_ok (v:=(κ b).slice (H b).body.len) hB hF h1 hl.left ⟨⟨Nat.le_refl _,by unfold KB.slice;split<;>rfl⟩,fun _ _=>rfl⟩
  have:=((RV_leaf rfl).1 hrv).2
  rcases hden with e' | e'<;>(rw [e'] at this;exact this)
 | mp k v=>
  rw [(rdMp_some h).2] at hb
  obtain ⟨ms,clk,h1,h2⟩:=hb
  exact ⟨ms,clk,h1,h2.mono hF (Ext.refl _ _)⟩
 | frzm k v=>
  obtain ⟨l1,m,h1,h2,rfl⟩:=rdVal_some h
  have hrv:=asDen_ok (v:=.map (some (κ b).blk)) hB hF h1 hl.left ⟨⟨Nat.le_refl _,rfl⟩,fun _ _=>rfl⟩
  exact ((RV_leaf rfl).1 hrv).2
 | whole t=>
  obtain ⟨c,e,h⟩:=rdWhole_some h
  rw [e] at hb
  obtain ⟨cs,T,k1,k2,k3⟩:=hb
  obtain ⟨l1,m,hx,_,rfl⟩:=rdVal_some h
  have hv:RA P H κ F w (.agg t.size c) (.agg cs):=⟨cs.toList,by simp,by simp [k2],fun j hj=>by
   have:=k3 j hj
   rw [Array.getD_eq_getD_getElem?] at this
   simpa [List.getD_eq_getElem?_getD] using this⟩
  have hrv:=asDen_ok (F':=F') hB hF hx hl.left hv
  have hal:=leafs_ok (P:=P) (H:=H') (κ:=fun b=>κ (f b)) t hrv.2
  refine ⟨cs,T,k1,k2,fun i hi=>⟨?_,(k3 i hi).2⟩⟩
  have:=(hal.nth i (by rw [hal.len];simpa [Value.cells,k2] using hi)).1
  rw [List.getD_eq_getElem?_getD] at this
  rw [Array.getD_eq_getD_getElem?]
  simpa [Value.cells] using this
 | frzc t=>
  obtain ⟨l1,m,h1,h2,rfl⟩:=rdFrzc_some h
  have hrv:=asDen_ok (v:=.pointer (some ⟨(κ b).blk,0,none⟩)) hB hF h1 hl.left ⟨⟨Nat.le_refl _,rfl⟩,fun _ _=>rfl⟩
  rcases ((RV_leaf rfl).1 hrv).2 with ⟨_,e⟩ | ⟨p,y,ds,e1,e2,h3,h4⟩
  ·cases e
  ·simp only [List.cons.injEq,Value.pointer.injEq,Option.some.injEq,and_true] at e1
   subst e1
   cases e2
   exact ⟨ds,h3,h4⟩
 | it k v=>
  rw [(rdIt_some h).2] at hb
  exact IterIs.mono hb hF (Ext.refl _ _) rfl
 | pool e=>trivial
theorem rdB_kind:∀ (l:List (Nat×TB)) {x:blkDen l} {m:List Nat},rdB H f l=some (x,m)→∀ b,lookB (blksL gId l x) b=⟨0,.dead⟩∨
  ∃ bd,lookB (blksL gId l x) b=⟨0,bd⟩∧Kind (H (f b)).body bd∧∃ t,(b,t)∈l∧∀ k,bd.owned k=true→t.isOwn=true:=by
 intro l
 induction l with
 | nil=>intro x m _ b;exact .inl rfl
 | cons q l ih=>
  intro x m h b
  obtain ⟨q1,q2⟩:=q
  simp only [rdB] at h
  obtain ⟨⟨m',h1,h2⟩,h3,h4⟩:=TB.rd_kind q2 h
  by_cases e:b=q1
  ·subst e
   exact .inr ⟨_,by simp only [blksL,lookB,if_true],h3,q2,by simp,h4⟩
  ·rcases ih h1 b with k | ⟨bd,k1,k2,t,k3,k4⟩
   ·exact .inl (by simpa [blksL,lookB,e] using k)
   ·exact .inr ⟨bd,by simpa [blksL,lookB,e] using k1,k2,t,List.mem_cons_of_mem _ k3,k4⟩
theorem rdB_pool:∀ (l:List (Nat×TB)) {x:blkDen l} {m:List Nat},rdB H f l=some (x,m)→∀ b e p,(lookB (blksL gId l x) b).body=.pool e p→(H (f b)).body=.pool e p∨p=[]:=by
 intro l
 induction l with
 | nil=>intro x m _ b e p h;cases h
 | cons q l ih=>
  intro x m h b e p hb
  obtain ⟨q1,q2⟩:=q
  simp only [rdB] at h
  obtain ⟨⟨m',h1,h2⟩,h3,h4⟩:=TB.rd_kind q2 h
  by_cases k:b=q1
  ·subst k
   simp only [blksL,lookB,if_true] at hb
   cases q2 with
   | pool e'=>
    obtain ⟨_,h6⟩:=rdPool_some h
    have hb:Body.pool e' x.1=.pool e p:=hb
    cases hb
    rcases h6 with h6 | ⟨_,h6⟩
    ·exact .inl h6
    ·exact .inr h6
   | _=>cases hb
  ·exact ih h1 b e p (by simpa [blksL,lookB,k] using hb)
theorem rdB_closed:∀ (l:List (Nat×TB)) {x:blkDen l} {m:List Nat},rdB H f l=some (x,m)→Closed H m:=by
 intro l
 induction l with
 | nil=>intro x m h;cases h;exact .nil H
 | cons q l ih=>intro x m h;exact TB.rd_closed q.2 h fun y m hm=>ih hm
theorem rdB_body (hB:∀ b,HB P H κ F w b) (hF:∀ r,F r→F' r) (hg:Reg f H H'):∀ (l:List (Nat×TB)) {x:blkDen l} {m:List Nat},rdB H f l=some (x,m)→FzIn H κ F' m→∀ b,HBody P H' (fun b=>κ (f b)) F' w (κ (f b)) (lookB (blksL gId l x) b).body:=by
 intro l
 induction l with
 | nil=>intro x m _ _ b;trivial
 | cons q l ih=>
  intro x m h hm b
  obtain ⟨q1,q2⟩:=q
  simp only [rdB] at h
  obtain ⟨⟨m',h1,h2⟩,_⟩:=TB.rd_kind q2 h
  by_cases e:b=q1
  ·subst e
   simp only [blksL,lookB,if_true]
   exact TB.rd_body hB hF hg q2 h hm
  ·have:=ih h1 (fun c hc=>hm c (h2 c hc)) b
   simpa [blksL,lookB,e] using this
theorem rdS_tr:∀ (ts:List (Nat×TAV)) {c:Nat→AV} {R:Type} {r:Option (R×List Nat)} {z:slotDen ts R} {l:List Nat},rdS H f ts c r=some (z,l)→∀ {i l' A L n st},look (slotsL gId ts z).1 i=.tr l' A L n st→c i=.tr l' A L n st:=by
 intro ts
 induction ts with
 | nil=>intro c R r z l _ i l' A L n st e;cases e
 | cons p ts ih=>
  intro c R r z l h i l' A L n st e
  obtain ⟨p1,t⟩:=p
  simp only [rdS] at h
  obtain ⟨m,h1,_⟩:=rd_shape t h
  simp only [slotsL,look] at e
  split at e
  ·rename_i ei
   subst ei
   cases t with
   | tr A'=>
    obtain ⟨_,h3⟩:=rdTr_some h
    rw [h3]
    exact e
   | _=>cases e
  ·exact ih h1 e
end
structure RdRes (C:Ctx) (s:AState) (a:Act) (w:World) (κ:Nat→KB) (f:Nat→Nat) (F':Nat→Prop) (sh:Shape) (σ:sh.Den) (fl:List Nat):Prop where
 slots:∀ i,RA C.P (sh.st σ).blk (fun b=>κ (f b)) F' w ((sh.st σ).slot i) (a.tmps.getD i Go.undef)
 blks:∀ b,HB C.P (sh.st σ).blk (fun b=>κ (f b)) F' w b
 owned:∀ b,((sh.st σ).blk b).body.owned (κ (f b))=true→f b ∉ fl∧(s.blk (f b)).body.owned (κ (f b))=true∧b∈sh.owns
 reg:Reg f s.blk (sh.st σ).blk
 tr:∀ l A L n st,(sh.st σ).slot TRS=.tr l A L n st→s.slot TRS=.tr l A L n st
 pool:∀ b e m,((sh.st σ).blk b).body=.pool e m→(s.blk (f b)).body=.pool e m∨m=[]
theorem Shape.rdF_ok {C:Ctx} {sh:Shape} {f:Nat→Nat} {s:AState} {a:Act} {w:World} {κ:Nat→KB} {F:Nat→Prop} {σ:sh.Den} {fl:List Nat} (h:sh.rdF f s=some (σ,fl)) (hr:RelK C s a w κ F) :
  ∃ F',(∀ r,F r→F' r)∧RelK C (s.frz fl) a w κ F'∧RdRes C s a w κ f F' sh σ fl:=by
 unfold Shape.rdF at h
 split at h
 ·rename_i σ' fl' hrd
  split at h
  ·rename_i harr
   cases h
   obtain ⟨m,h1,hm⟩:=rdS_shape sh.slots hrd
   have hcl:Closed s.blk fl:=rdS_closed sh.slots hrd fun y m hm=>rdB_closed sh.blks hm
   obtain ⟨F',f1,hr',f2⟩:=RelK.frzL hcl hr
   have hkind:=rdB_kind sh.blks h1
   have hreg:Reg f s.blk (sh.st σ).blk:=by
    intro b
    show (lookB (blksL gId sh.blks (slotsL gId sh.slots σ).2) b).gen=0∧Kind (s.blk (f b)).body (lookB (blksL gId sh.blks (slotsL gId sh.slots σ).2) b).body
    rcases hkind b with e | ⟨bd,e,k,_⟩
    ·rw [e];exact ⟨rfl,Kind.dead _⟩
    ·rw [e];exact ⟨rfl,k⟩
   obtain ⟨m2,_,_,hslots⟩:=rdS_ok (F':=F') (w:=w) hr.blks f1 hreg sh.slots hrd
   refine ⟨F',f1,hr',{ slots:=fun i=>hslots f2 i _ (hr.slots i),blks:=fun b=>?_,owned:=fun b hb=>?_,reg:=hreg,tr:=fun l A L n st e=>rdS_tr sh.slots hrd e,pool:=rdB_pool sh.blks h1 }⟩
   ·exact rdB_body hr.blks f1 hreg sh.blks h1 (fun c hc=>f2 c (hm c hc)) b
   ·have hk:=(hreg b).2.2.2.2.2 _ hb
    rcases hkind b with e | ⟨bd,e,_,t,ht,hto⟩
    ·have e:(sh.st σ).blk b=_:=e
     rw [e] at hb;cases hb
    ·have e:(sh.st σ).blk b=_:=e
     rw [e] at hb
     have hob:b∈sh.owns:=List.mem_filterMap.2 ⟨(b,t),ht,by simp [hto _ hb]⟩
     refine ⟨?_,hk,hob⟩
     have:=List.all_eq_true.1 harr b hob
     simpa using this
  ·cases h
 ·cases h
theorem RdRes.frzOwned {C:Ctx} {s:AState} {a:Act} {w:World} {κ:Nat→KB} {f:Nat→Nat} {F':Nat→Prop} {sh:Shape} {σ:sh.Den} {fl:List Nat} (h:RdRes C s a w κ f F' sh σ fl) {b:Nat} (hb:((sh.st σ).blk b).body.owned (κ (f b))=true) :
  ((s.frz fl).blk (f b)).body.owned (κ (f b))=true:=by
 obtain ⟨h1,h2,_⟩:=h.owned b hb
 simp only [AState.frz,if_neg h1]
 exact h2
theorem nilRow {C:Ctx} {s:AState} {a:Act} {w:World} {κ:Nat→KB} {F:Nat→Prop} (hr:RelK C s a w κ F) {b:Nat} {e:Ty} :
  RelK C (s.setB b ⟨(s.blk b).gen+1,.arr e []⟩) a w (fun i=>if i=b then ⟨0,0,0,true⟩ else κ i) F:=
 hr.renew (k:=⟨0,0,0,true⟩) (Nat.lt_succ_self _) (.inl rfl) (Nat.le_refl _) (fun _ _=>rfl) (fun h=>by cases h) (Calm.refl _) fun _ _=>⟨fun _=>rfl,fun h=>by cases h⟩
theorem renRow_ok {C:Ctx} {s:AState} {a:Act} {w:World} {κ:Nat→KB} {F:Nat→Prop} (hr:RelK C s a w κ F) {i b b' g':Nat} (hs:s.slot i=.own b' g'):∃ κ',RelK C (renRow s i b b' g') a w κ' F:=by
 unfold renRow
 split
 ·rename_i e xs hd hbody
  obtain ⟨hne,rfl⟩:=of_decide_eq_true hd
  generalize hH:(fun j=>if j=b then (⟨(s.blk b).gen+1,.arr e xs⟩:ABlk) else if j=b' then ⟨(s.blk b').gen+1,.dead⟩ else s.blk j)=H'
  generalize hK:(fun j=>if j=b then κ b' else κ j)=κ'
  have h1:H' b=⟨(s.blk b).gen+1,.arr e xs⟩:=by rw [←hH];exact if_pos rfl
  have h2:H' b'=⟨(s.blk b').gen+1,.dead⟩:=by rw [←hH];exact (if_neg hne).trans (if_pos rfl)
  have h3:∀ j,j≠b→j≠b'→H' j=s.blk j:=fun j k1 k2=>by rw [←hH];exact (if_neg k1).trans (if_neg k2)
  have k1:κ' b=κ b':=by rw [←hK];exact if_pos rfl
  have k3:∀ j,j≠b→κ' j=κ j:=fun j k=>by rw [←hK];exact if_neg k
  have hl:Later s.blk κ H' κ':=by
   rw [later_iff]
   intro j
   by_cases e1:j=b
   ·subst e1;rw [h1];exact ⟨Nat.le_succ _,fun e=>absurd e (Nat.ne_of_lt (Nat.lt_succ_self _))⟩
   ·by_cases e2:j=b'
    ·subst e2;rw [h2];exact ⟨Nat.le_succ _,fun e=>absurd e (Nat.ne_of_lt (Nat.lt_succ_self _))⟩
    ·rw [h3 j e1 e2,k3 j e1];exact Later1.refl _ _
  have hown:∀ j,(H' j).body.owned (κ' j)=true→(j=b∧(s.blk b').body.owned (κ b')=true)∨(j≠b∧j≠b'∧(s.blk j).body.owned (κ j)=true):=fun j hj=>by
   by_cases e1:j=b
   ·subst e1;rw [h1,k1] at hj;exact .inl ⟨rfl,by rw [hbody];exact hj⟩
   ·by_cases e2:j=b'
    ·subst e2;rw [h2] at hj;cases hj
    ·rw [h3 j e1 e2,k3 j e1] at hj;exact .inr ⟨e1,e2,hj⟩
  have h:=hr.move (H':=H') (κ':=κ') (F':=F) (w':=w) hl (fun _ h=>h) (fun _ h=>.inl h) (Nat.le_refl _) (fun _ _ _=>rfl) (Calm.refl w)
   (fun _ j=>by
    by_cases e1:j=b
    ·subst e1
     have hB:=hr.blks b'
     unfold HB at hB ⊢
     rw [hbody] at hB
     rw [h1,k1]
     exact hB
    ·by_cases e2:j=b'
     ·subst e2;unfold HB;rw [h2];trivial
     ·exact HB.other (hr.blks j) hl (fun _ h=>h) (Ext.refl _ _) (by rw [h3 j e1 e2]) (k3 j e1) fun _=>rfl)
   (fun j hj=>by
    rcases hown j hj with ⟨rfl,h⟩ | ⟨e1,_,h⟩
    ·rw [k1];have:=hr.own b' h;exact ⟨this.1,this.2.1,.inl ⟨b',h,rfl⟩⟩
    ·rw [k3 j e1];have:=hr.own j h;exact ⟨this.1,this.2.1,.inl ⟨j,h,rfl⟩⟩)
   (fun j j' hj hj' e=>by
    rcases hown j hj with ⟨rfl,h⟩ | ⟨e1,e2,h⟩<;>rcases hown j' hj' with ⟨rfl,h'⟩ | ⟨e1',e2',h'⟩
    ·rfl
    ·rw [k1,k3 j' e1'] at e;exact absurd (hr.inj b' j' h h' e).symm e2'
    ·rw [k1,k3 j e1] at e;exact absurd (hr.inj j b' h h' e) e2
    ·rw [k3 j e1,k3 j' e1'] at e;exact hr.inj j j' h h' e)
   hr.fsz
   (fun j _ hj=>by
    by_cases e1:j=b
    ·subst e1;rw [h1] at hj;rcases hj with hj | hj<;>cases hj
    ·by_cases e2:j=b'
     ·subst e2;rw [h2] at hj;rcases hj with hj | hj<;>cases hj
     ·rw [h3 j e1 e2] at hj;exact ⟨k3 j e1,hj⟩)
   (fun e' m hm=>by
    by_cases e1:POOLN=b
    ·rw [e1,h1] at hm;cases hm
    ·by_cases e2:POOLN=b'
     ·rw [e2,h2] at hm;cases hm
     ·rw [h3 _ e1 e2] at hm;exact hm)
  refine ⟨κ',{ h with slots:=fun j=>?_,tsz:=h.tsz,dfr:=h.dfr,blks:=h.blks,pro:=fun l A L n st e'=>?_,pool:=fun e' m hm=>⟨(h.pool e' m hm).1,fun id xs hx=>⟨fun l A L n st ht=>?_,((h.pool e' m hm).2 id xs hx).2⟩⟩ }⟩
  ·show RA C.P _ _ F w (if j=i then .own b ((s.blk b).gen+1) else s.slot j) _
   split
   ·rename_i e
    subst e
    have hv:=hr.slots j
    rw [hs] at hv
    have hv2:=hv.2 rfl (by rw [hbody];rfl)
    rw [hbody] at hv2
    exact ⟨⟨by show _≤(H' b).gen;rw [h1];exact Nat.le_refl _,hv.1.2⟩,fun _ _=>by show _=(κ' b).slice (H' b).body.len;rw [h1,k1];exact hv2⟩
   ·exact h.slots j
  ·have e':(if TRS=i then .own b ((s.blk b).gen+1) else s.slot TRS)=.tr l A L n st:=e'
   split at e'
   ·cases e'
   ·exact h.pro l A L n st e'
  ·have e':(if TRS=i then .own b ((s.blk b).gen+1) else s.slot TRS)=.tr l A L n st:=ht
   split at e'
   ·cases e'
   ·exact ((h.pool _ m hm).2 id xs hx).1 l A L n st e'
 ·exact ⟨κ,hr⟩
theorem nilSlot_ok {C:Ctx} {bs:List (Nat×TB)} {s:AState} {a:Act} {w:World} {κ:Nat→KB} {F:Nat→Prop} (hr:RelK C s a w κ F) (i b:Nat):∃ κ',RelK C (nilSlot bs s i b) a w κ' F:=by
 unfold nilSlot
 split
 ·rename_i e hs _
  have h:=nilRow hr (b:=b) (e:=e)
  refine ⟨_,{ h with slots:=fun j=>?_,tsz:=h.tsz,dfr:=h.dfr,blks:=h.blks,pro:=fun l A L n st e'=>?_,pool:=fun e' m hm=>⟨(h.pool e' m hm).1,fun id xs hx=>⟨fun l A L n st ht=>?_,((h.pool e' m hm).2 id xs hx).2⟩⟩ }⟩
  ·show RA C.P _ _ F w (if j=i then .own b ((s.blk b).gen+1) else s.slot j) _
   split
   ·rename_i e
    subst e
    have hv:=hr.slots j
    rw [hs] at hv
    have hv:a.tmps.getD j undef=.slice none 0 0:=hv
    rw [hv]
    exact ⟨⟨by simp [AState.setB],rfl⟩,fun _ _=>by simp [KB.slice]⟩
   ·exact h.slots j
  ·have e':(if TRS=i then .own b ((s.blk b).gen+1) else s.slot TRS)=.tr l A L n st:=e'
   split at e'
   ·cases e'
   ·exact h.pro l A L n st e'
  ·have e':(if TRS=i then .own b ((s.blk b).gen+1) else s.slot TRS)=.tr l A L n st:=ht
   split at e'
   ·cases e'
   ·exact ((h.pool _ m hm).2 id xs hx).1 l A L n st e'
 ·rename_i hs _;exact renRow_ok hr hs
 ·exact ⟨κ,hr⟩
theorem nilCell_ok {C:Ctx} {bs:List (Nat×TB)} {s:AState} {a:Act} {w:World} {κ:Nat→KB} {F:Nat→Prop} (hr:RelK C s a w κ F) (c j b:Nat):∃ κ',RelK C (nilCell bs s c j b) a w κ' F:=by
 unfold nilCell
 split
 ·rename_i t f hc
  split
  ·rename_i e hf hd _
   have hbc:c≠b:=fun e=>by rw [←e,hc] at hd;cases hd
   have h:=nilRow hr (b:=b) (e:=e)
   have hbl:(s.setB b ⟨(s.blk b).gen+1,.arr e []⟩).blk c=s.blk c:=by simp [AState.setB,hbc]
   have hB:=h.blks c
   unfold HB at hB
   rw [hbl,hc] at hB
   obtain ⟨cs,T,h1,h2,h3⟩:=hB
   refine ⟨_,h.write (w':=w) (b:=c) (x:=⟨(s.blk c).gen,.cells t fun q=>if q=j then .own b ((s.blk b).gen+1) else f q⟩) (by rw [hbl,hc];rfl) rfl
    (later_same (by rw [hbl]) (fun _=>by rw [hbl,hc];rfl) (fun h=>by cases h) (fun h=>by cases h) (fun h=>by cases h)) (fun _=>by rw [hbl,hc];rfl) (fun h=>by cases h) (fun _ _=>rfl) rfl (Calm.refl _) fun H hH hl _=>?_⟩
   refine ⟨cs,T,h1,h2,fun q hq=>⟨?_,(h3 q hq).2⟩⟩
   show RA C.P H _ F w (if q=j then .own b ((s.blk b).gen+1) else f q) _
   split
   ·rename_i eq
    subst eq
    have hv:=(h3 q hq).1
    rw [hf] at hv
    have hv:cs.getD q undef=.slice none 0 0:=hv
    rw [hv]
    have hHb:H b=⟨(s.blk b).gen+1,.arr e []⟩:=by rw [hH];simp [AState.setB,Ne.symm hbc]
    exact ⟨⟨by rw [hHb];exact Nat.le_refl _,rfl⟩,fun _ _=>by rw [hHb];simp [KB.slice]⟩
   ·exact RA.later hl (fun _ h=>h) (Ext.refl _ _) (h3 q hq).1
  ·exact ⟨κ,hr⟩
 ·exact ⟨κ,hr⟩
theorem nilp_ok {C:Ctx} (sh:Shape) {s:AState} {a:Act} {w:World} {κ:Nat→KB} {F:Nat→Prop} (hr:RelK C s a w κ F):∃ κ',RelK C (sh.nilp s) a w κ' F:=by
 have h1:∀ (l:List (Nat×TAV)) (s:AState) (κ:Nat→KB),RelK C s a w κ F→∃ κ',RelK C (nilSlots sh.blks l s) a w κ' F:=by
  intro l
  induction l with
  | nil=>intro s κ h;exact ⟨κ,h⟩
  | cons p l ih=>
   intro s κ h
   simp only [nilSlots]
   split
   ·obtain ⟨κ',h'⟩:=nilSlot_ok (bs:=sh.blks) h p.1 _
    exact ih _ _ h'
   ·exact ih _ _ h
 have h2:∀ (c:Nat) (l:List TAV) (j:Nat) (s:AState) (κ:Nat→KB),RelK C s a w κ F→∃ κ',RelK C (nilCells sh.blks c l j s) a w κ' F:=by
  intro c l
  induction l with
  | nil=>intro j s κ h;exact ⟨κ,h⟩
  | cons t l ih=>
   intro j s κ h
   simp only [nilCells]
   split
   ·obtain ⟨κ',h'⟩:=nilCell_ok (bs:=sh.blks) h c j _
    exact ih _ _ _ h'
   ·exact ih _ _ _ h
 have h3:∀ (l:List (Nat×TB)) (s:AState) (κ:Nat→KB),RelK C s a w κ F→∃ κ',RelK C (nilBlks sh.blks l s) a w κ' F:=by
  intro l
  induction l with
  | nil=>intro s κ h;exact ⟨κ,h⟩
  | cons p l ih=>
   intro s κ h
   simp only [nilBlks]
   split
   ·obtain ⟨κ',h'⟩:=h2 p.1 _ 0 s κ h
    exact ih _ _ h'
   ·exact ih _ _ h
 obtain ⟨κ1,hr1⟩:=h1 sh.slots s κ hr
 exact h3 sh.blks _ _ hr1
theorem lookB_in:∀ (l:List (Nat×TB)) (x:blkDen l) (b:Nat),(lookB (blksL gId l x) b).body.isArr=true→∃ q∈l,q.1=b∧q.2.isRow=true
 | [],_,_,h=>by cases h
 | p::l,x,b,h=>by
  simp only [blksL,lookB] at h
  by_cases e:b=p.1
  ·rw [if_pos e] at h
   refine ⟨p,by simp,e.symm,?_⟩
   obtain ⟨p1,t⟩:=p
   cases t<;>first | rfl | cases h
  ·rw [if_neg e] at h
   obtain ⟨q,h1,h2⟩:=lookB_in l _ b h
   exact ⟨q,List.mem_cons_of_mem _ h1,h2⟩
theorem Shape.rd_okK {C:Ctx} {sh:Shape} {s:AState} {a:Act} {w:World} {σ:sh.Den} {κ:Nat→KB} {F:Nat→Prop} (h:sh.rd s=some σ) (hr:RelK C s a w κ F):∃ κ' F',(∀ r,F r→F' r)∧RelK C (sh.st σ) a w κ' F':=by
  obtain ⟨κ,hr⟩:=nilp_ok sh hr
  unfold Shape.rd at h
  generalize sh.nilp s=s at h hr
  split at h
  case h_2=>cases h
  rename_i hfr
  simp only [Option.map_eq_some_iff] at h
  obtain ⟨⟨σ',fl⟩,h,rfl⟩:=h
  obtain ⟨F',f1,hr',hd⟩:=Shape.rdF_ok h hr
  have hown:=fun b hb=>hd.frzOwned (b:=b) hb
  exact ⟨κ, F', f1, { hr' with
    tsz:=hr'.tsz,dfr:=hr'.dfr,slots:=hd.slots,blks:=hd.blks,own:=fun b hb=>hr'.own b (hown b hb),inj:=fun b b' hb hb'=>hr'.inj b b' (hown b hb) (hown b' hb')
    anch:=fun b r hr hc=>hr'.anch b r hr (hc.imp (fun hc=>by
      have h0:=(hd.reg b).2.1 hc
      simp only [AState.frz]
      split
      · rcases fz_cases s.blk (s.blk b) with e | ⟨_,_,hx,_⟩ | ⟨_,_,_,hx,_⟩ | ⟨_,_,_,_,_,_,e⟩
        · rw [e];exact h0
        · rw [hx] at h0;cases h0
        · rw [hx] at h0;cases h0
        · rw [e];rfl
      · exact h0) (fun hc=>by
      have h0:=(hd.reg b).2.2.2.1 hc
      simp only [AState.frz]
      split
      · rcases fz_cases s.blk (s.blk b) with e | ⟨_,_,hx,_⟩ | ⟨_,_,_,_,e⟩ | ⟨_,_,_,_,hx,_,_⟩
        · rw [e];exact h0
        · rw [hx] at h0;cases h0
        · rw [e];rfl
        · rw [hx] at h0;cases h0
      · exact h0))
    anA:=fun b k hk _ ha=>by
      obtain ⟨a1,a2,_⟩:=(hd.reg b).2.2.1 ha
      have hg:(s.blk b).gen=0:=by
        rcases lookB_in sh.blks (slotsL gId sh.slots σ').2 b ha with ⟨q,hq,rfl,hrow⟩
        have:=List.all_eq_true.1 hfr q hq
        rw [hrow] at this
        have hge:=hr.ara _ k hk
        simpa [hge] using this
      obtain ⟨k1,k2⟩:=hr.anA b k hk hg a1
      exact ⟨k1,a2.trans k2⟩
    pro:=fun l A L n st e=>by
      obtain ⟨h1,h2,Y,h3,h4,h5⟩:=hr'.pro l A L n st (hd.tr l A L n st e)
      exact ⟨h1,h2,Y,h3,fun b hb=>h4 b (hown b hb),h5⟩
    pool:=fun e m hm=>by
      rcases hd.pool POOLN e m hm with k | rfl
      · have k':((s.frz fl).blk POOLN).body=.pool e m:=by
          simp only [AState.frz]
          split
          · simp [fz,k]
          · exact k
        obtain ⟨p1,p2⟩:=hr'.pool e m k'
        refine ⟨p1,fun id xs hx=>?_⟩
        obtain ⟨q0,q1,q2,q3,q4,q5⟩:=p2 id xs hx
        exact ⟨fun l A L n st ht=>q0 l A L n st (hd.tr l A L n st ht),q1,q2,q3,fun b hb=>q4 b (hown b hb),q5⟩
      · exact ⟨List.nodup_nil,fun id xs hx=>(by cases hx)⟩ }⟩
theorem Shape.rd_ok {C:Ctx} {sh:Shape} {s:AState} {a:Act} {w:World} {σ:sh.Den} (h:sh.rd s=some σ) (hr:Rel C s a w):Rel C (sh.st σ) a w:=by
 obtain ⟨κ,F,hr⟩:=hr
 obtain ⟨κ',F',_,hr'⟩:=Shape.rd_okK h hr
 exact ⟨κ',F',hr'⟩
end Go.Fer
namespace Go.Fer
open Go.RowKit
def ProgOk (C:Ctx) (o:Oper) (s:AState) (pr:PRes):Prop:=
 ∀ (a:Act) (w:World) (Q:Exit→Act→World→Prop) (K:Act→World→Prop),Rel C s a w→pr.ob→M.Ret pr.m (fun y=>∀ a' w',Rel C (pr.st y) a' w'→K a' w')→o.wpIn (rnd C.r) 0 C.P a w K Q
def GOk (C:Ctx) (o:Oper) (s:AState) (pr:PRes):Prop:=
 ∀ gs,pr.gst=some gs→(∀ y a w,Rel C (pr.st y) a w→Rel C (gs true y) a w)∧∀ a w,Rel C s a w→Rel C (gs false pr.d) (a.put o.dst Go.undef) w
structure PrOk (C:Ctx) (o:Oper) (s:AState) (pr:PRes):Prop where
 prog:ProgOk C o s pr
 grd:GOk C o s pr
 free:UseOk (opAV C.ft s.slot) o→pr.ob
theorem Rel.reslot {C:Ctx} {s:AState} {d:Option Nat} {av av':AV} {a:Act} {w:World} (h:Rel C (s.set d av) a w)
  (hd:∀ i,d=some i→i<C.nt) (hv:∀ κ F v,RA C.P s.blk κ F w av v→RA C.P s.blk κ F w av' v):Rel C (s.set d av') a w:=by
 cases d with
 | none=>exact h
 | some d=>
  obtain ⟨κ,F,h⟩:=h
  have hn:=h.nsz
  have hd':=hd d rfl
  have ht:TRS≠d:=by unfold TRS TMAX at *;omega
  refine ⟨κ,F,{ h with slots:=fun i=>?_,tsz:=h.tsz,dfr:=h.dfr,blks:=h.blks,pro:=fun l A L n st e=>h.pro l A L n st ?_,pool:=h.pool.slots rfl fun l A L n st e=>?_ }⟩
  ·have hi:=h.slots i
   simp only [AState.set] at hi ⊢
   by_cases e:i=d
   ·rw [if_pos e] at hi ⊢;exact hv κ F _ hi
   ·rw [if_neg e] at hi ⊢;exact hi
  ·simp only [AState.set,if_neg ht] at e ⊢
   exact e
  ·simp only [AState.set,if_neg ht] at e ⊢
   exact e
section
variable {C:Ctx} {T:Nat→Ty} {Φ:Nat→Option FC} {o:Oper} {s:AState}
theorem args_free {args:List Operand} (hb:UseOk (opAV C.ft s.slot) o) (ha:∀ x∈args,x∈o.op.operands.toList):usesObL (args.map (opAV C.ft s.slot)):=
 usesObL_free fun v hv=>by
  simp only [List.mem_map] at hv
  obtain ⟨p,hp,rfl⟩:=hv
  exact hb p (ha p hp)
theorem grd_after (hdst:∀ i,o.dst=some i→i<C.nt) {tr:Ty} {fl:List Nat} (hcl:Closed s.blk fl) {d:tr.Den} :
  (∀ (y:tr.Den) a w,Rel C (afterCall s o tr fl (resV tr y)) a w→Rel C (afterCall s o tr fl (.whn true (resV tr y))) a w)∧∀ a w,Rel C s a w→Rel C (afterCall s o tr fl (.whn false (resV tr d))) (a.put o.dst Go.undef) w:=by
 refine ⟨fun y a w h=>Rel.reslot h hdst fun κ F v hv=>⟨fun _=>hv,fun h=>(by cases h)⟩,fun a w h=>?_⟩
 obtain ⟨κ,F,hr⟩:=h
 obtain ⟨F',_,hr',_⟩:=RelK.frzL hcl hr
 unfold afterCall
 split
 ·exact ⟨κ,F,hr.set hdst ⟨fun h=>(by cases h),fun _=>rfl⟩⟩
 ·exact ⟨κ,F',hr'.set hdst ⟨fun h=>(by cases h),fun _=>rfl⟩⟩
theorem scI_ok (hdst:∀ i,o.dst=some i→i<C.nt) {k:Nat} {args:Array Operand} {tys:Array TypeId} (ho:o.op=.call { callee:=.value (.func k),args:=args,argTypes:=tys }) {sc:SC} (hf:FnSpec C.P k sc.ts sc.tr sc.sh) {pr:PRes}
  (h:scI C.ft s o args.toList sc=some pr):PrOk C o s pr:=by
 unfold scI at h
 split at h
 ·rename_i x fl hx
  cases h
  refine ⟨fun a w Q K hr hob hm=>?_,fun gs hgs=>?_,fun hb=>args_free hb fun x hx=>by rw [ho];simp [Op.operands,Call.operands];simp_all⟩
  ·obtain ⟨κ,F,hr⟩:=hr
   exact call_ok hr hf hdst ho hob hx hm.1 fun y w' hy v hrel=>hm.2 y hy _ _ hrel
  ·cases hgs
   exact grd_after hdst (asArgs_closed _ hx)
 ·cases h
theorem fnI_ok (hdst:∀ i,o.dst=some i→i<C.nt) {t:Nat} {args:Array Operand} {tys:Array TypeId} (ho:o.op=.call { callee:=.value (.tmp t),args:=args,argTypes:=tys }) {pr:PRes}
  (h:fnI C.ft s o t args.toList=some pr):PrOk C o s pr:=by
 unfold fnI at h
 split at h
 ·rename_i ob A b f hu
  split at h
  ·rename_i x fl hx
   cases h
   obtain ⟨args⟩:=args
   refine ⟨fun a w Q K hr hob hm=>?_,fun gs hgs=>?_,fun hb=>⟨?_,args_free hb fun x hx=>by rw [ho];simp [Op.operands,Call.operands];simp_all⟩⟩
   ·obtain ⟨κ,F,hr⟩:=hr
    obtain ⟨F',f1,hr',f2⟩:=RelK.frzL (asArgs_closed _ hx) hr
    have hargs:RArgs C.P A F' w (args.map a.eval) x:=by
     refine asArgs_ok hr.blks f1 A hx f2 (by simp) fun i hi hi'=>?_
     simp only [List.getElem_map]
     have hi2:i<args.length:=by simpa using hi'
     have h1:=usesObL_spec hob.2 i (by simpa using hi2)
     have e1:(args.map (opAV C.ft s.slot)).getD i .undef=opAV C.ft s.slot args[i]:=by simp [List.getD_eq_getElem?_getD,hi2]
     rw [show (List.map (opAV C.ft s.slot) (⟨args⟩:Array Operand).toList)=args.map (opAV C.ft s.slot) from rfl,e1] at h1
     exact use_ok (opAV_ok hr args[i]) h1
    have hfv:RA C.P s.blk κ F w (use (opAV C.ft s.slot (.tmp t))).2 (a.eval (.tmp t)):=use_op hr (.tmp t) hu hob.1 |> fun h=>by
     have e:use (opAV C.ft s.slot (.tmp t))=(ob,.val (.fn A b) f):=hu
     rw [e];exact h
    have e:use (opAV C.ft s.slot (.tmp t))=(ob,.val (.fn A b) f):=hu
    rw [e] at hfv
    obtain ⟨_,u,hu',_,hfn⟩:=(RV_leaf rfl).1 hfv
    have hu':a.eval (.tmp t)=u:=(List.cons.inj hu').1
    obtain ⟨g,caps,hg,hent,hcalls⟩:=hfn F' w f1 (Ext.refl _ _) hr'.fsz hr'.glob (args.map a.eval) x hargs.1 hargs.2 hm.1
    have hrun:(execOp a.eval o).run C.P w=.ok (.enter g ((args.map a.eval).toArray++caps)) w:=by
     have hv:a.eval (.tmp t)=.func (.func g) #[] caps:=hu'.trans hg
     simp only [execOp,ho,Sem.run_bind,resolve,hv,Deferred.ofValue,Sem.run_pure,Result.andThen_ok,invoke]
     have:=hent ((args.map a.eval).toArray++caps) w
     simpa using this
    refine oper_call (by rw [ho];intro c hc;cases hc) hrun hcalls fun e w' ⟨v,y,vs,he,hy,h1,h2,h3,hb⟩=>⟨v,he,hm.2 y hy _ _ ?_⟩
    have hres:RRes C.P b (Grow F' w w') w' v y:=⟨vs,h1,h2,h3⟩
    unfold afterCall
    by_cases hp:b.pure=true
    ·rw [if_pos hp]
     have hg:=hr.grow hb
     refine ⟨κ,_,hg.set hdst (resV_ok ?_)⟩
     exact ⟨vs,h1,RArgs_pure hp ⟨h2,h3⟩⟩
    ·rw [if_neg hp]
     have hg:=hr'.grow hb
     exact ⟨κ,_,hg.set hdst (resV_ok hres)⟩
   ·cases hgs
    exact grd_after hdst (asArgs_closed _ hx)
   ·have:=hb (.tmp t) (by rw [ho];simp [Op.operands,Call.operands])
    have e:use (opAV C.ft s.slot (.tmp t))=(ob,.val (.fn A b) f):=hu
    rw [e] at this
    exact this
  ·cases h
 ·cases h
theorem rangeI_ok (hT:TabOk C.P T) (hdst:∀ i,o.dst=some i→i<C.nt) {ty:TypeId} {x:Operand} (ho:o.op=.range ty x) {pr:PRes} (h:rangeI C.ft T s o ty x=some pr):PrOk C o s pr:=by
 unfold rangeI at h
 split at h
 ·rename_i k v d ht hd
  split at h
  rename_i ob av hu
  split at h
  ·rename_i es fl hes
   split at h
   ·cases h
   ·rename_i hnd
    cases h
    have hnd:d ∉ fl:=by simpa using hnd
    obtain ⟨i,j,hi,_,_⟩:=(hT.is ht (by simp)).mp
    refine ⟨fun a w Q K hr hob hm=>?_,fun gs hgs=>(by cases hgs),fun hb=>UseOk.use hb (by rw [ho];simp [Op.operands]) hu⟩
    obtain ⟨κ,F,hr⟩:=hr
    obtain ⟨F',f1,hr',f2⟩:=RelK.frzL (asDen_closed hes) hr
    have hv:=use_op hr x hu hob
    have hrc:=((RV_leaf rfl).1 (asDen_ok hr.blks f1 hes f2 hv)).2
    have hK:=hm.2 () rfl
    have hbf:(s.frz fl).blk d=s.blk d:=by simp only [AState.frz];rw [if_neg hnd]
    have fin:∀ (it:Obj),(∀ w',w'=w.alloc it→IterIs C.P k v F' w' w.heap.size none es)→(execOp a.eval o).run C.P w=.ok (.value (.pointer (some ⟨w.heap.size,0,none⟩))) (w.alloc it)→o.wpIn (rnd C.r) 0 C.P a w K Q:=by
     intro it hit hrun
     have h1:=hr'.alloc (b:=d) (x:=⟨(s.blk d).gen+1,.it k v none es⟩) (hr.small (hdst d hd)) (by rw [hbf];exact Nat.lt_succ_self _) (o:=it) (k:=⟨w.heap.size,0,0,false⟩) rfl fun H κ' _ _ _=>hit _ rfl
     refine oper_value (by rw [ho];intro c hc;cases hc) hrun (hK _ _ ⟨_,F',RelK.set (s:=(s.frz fl).setB d _) h1 hdst ⟨⟨by simp [AState.setB],rfl⟩,fun _ _=>by simp⟩⟩)
    rcases hrc with ⟨e1,rfl⟩ | ⟨r,ms,clk,e1,m1,m2,m3,m4,m5,m6⟩
    ·have hx:a.eval x=.map none:=(List.cons.inj e1).1
     refine fin (.mapIter none 0 #[] 0) (fun w' hw=>.inl ⟨by rw [hw];exact heap_alloc_new _ _,rfl,rfl⟩) ?_
     simp [execOp,ho,Instr.range,run_underlying' hi,hx]
    ·have hx:a.eval x=.map (some r):=(List.cons.inj e1).1
     refine fin (.mapIter (some r) clk #[] clk) (fun w' hw=>.inr ⟨r,ms,clk,#[],m1,?_,by rw [hw];exact heap_alloc_new _ _,fun i hi=>(m5 i (by omega) hi).2.2.2.2,m6,?_,fun c hc=>by cases hc⟩) ?_
     ·rw [hw,heap_alloc_lt _ _ (hr'.fsz r m1)];exact m2
     ·refine ⟨List.range ms.size,by simp [m3],List.nodup_range,fun i=>by simp,fun j hj hj'=>?_⟩
      have hjm:j<ms.size:=by simpa using hj
      obtain ⟨k1,k2,k3,k4,_⟩:=m5 j hj' hjm
      refine ⟨by simpa using hjm,?_⟩
      simp only [List.getElem_range]
      have he:Ext F' w w':=by rw [hw];exact Ext.alloc hr'.fsz _
      exact EntIs.mono ⟨k1,k2,k3,k4⟩ (fun _ h=>h) he
     ·have hget:(getObj r).run C.P w=.ok (.map ms clk) w:=by simp [getObj,Sem.run,m2]
      simp [execOp,ho,Instr.range,run_underlying' hi,hx,hget]
  ·cases h
 ·cases h
theorem entryI_ok (hdst:∀ i,o.dst=some i→i<C.nt) {x:Operand} (ho:o.op=.entry x) {pr:PRes} (h:entryI C.ft s o x=some pr):PrOk C o s pr:=by
 unfold entryI at h
 split at h
 ·rename_i b g hx
  split at h
  ·rename_i hg
   split at h
   ·rename_i k v c rest hb
    cases h
    refine ⟨fun a w Q K hr _ hm=>?_,fun gs hgs=>(by cases hgs),fun _=>trivial⟩
    obtain ⟨κ,F,hr⟩:=hr
    have hv:=opAV_ok hr x
    rw [hx] at hv
    have hv:=hv.2 hg.symm (by rw [hb];rfl)
    have hB:=hr.blks b
    unfold HB at hB
    rw [hb] at hB
    have hm':=M.ret_req.1 hm
    have hK:=M.ret_pure.1 hm'.2
    obtain ⟨c',hc'⟩:=Option.isSome_iff_exists.1 hm'.1
    subst hc'
    rcases hB with ⟨_,_,e⟩ | ⟨mr,es,clk,seen,h1,h2,h3,h4,h5,_,h7⟩
    ·cases e
    ·obtain ⟨i,hi,hs,he⟩:=h7 c' rfl
     have hfind:es.find? (fun e=>e.born == es[i].born)=some es[i]:=by
      rw [←Array.find?_toList]
      have hmem:es[i]∈es.toList:=by simp
      cases hf:es.toList.find? (fun e=>e.born == es[i].born) with
      | none=>have:=List.find?_eq_none.1 hf _ hmem;simp at this
      | some e=>
       have h8:=List.find?_some hf
       have h9:=List.mem_of_find?_eq_some hf
       obtain ⟨j,hj,rfl⟩:=List.mem_iff_getElem.1 h9
       have hj':j<es.size:=by simpa using hj
       have:j=i:=h5 j i hj' hi (by simpa using h8)
       subst this
       simp
     have hg1:(getObj (κ b).blk).run C.P w=.ok (.mapIter (some mr) clk seen clk) w:=by simp [getObj,Sem.run,h3]
     have hg2:(getObj mr).run C.P w=.ok (.map es clk) w:=by simp [getObj,Sem.run,h2]
     have hrun:(execOp a.eval o).run C.P w=.ok (.value (.tuple #[es[i].key,es[i].val])) w:=by
      simp [execOp,ho,Instr.entry,hv,hg1,hg2,hs,hfind]
     refine oper_value (by rw [ho];intro c hc;cases hc) hrun (hK _ _ ⟨κ,F,hr.set hdst ⟨[es[i].key,es[i].val],rfl,rfl,fun n hn=>?_⟩⟩)
     match n,hn with
     | 0,_=>exact ⟨he.1,he.2.1⟩
     | 1,_=>exact ⟨he.2.2.1,he.2.2.2⟩
   ·cases h
  ·cases h
 ·cases h
theorem iter_left {es:Array MapEntry} {seen:Array Nat} {clk:Nat} (h4:∀ i (h:i<es.size),es[i].born<clk) :
  (es.filter fun e=>!seen.contains e.born).filter (fun e=>decide (e.born<clk))=(es.filter fun e=>!seen.contains e.born)∧(es.filter fun e=>!seen.contains e.born).filter (fun e=>decide (e.born≥clk))=#[]:=by
 have hall:∀ e∈es.filter fun e=>!seen.contains e.born,e.born<clk:=by
  intro e he
  have:=(Array.mem_filter.1 he).1
  obtain ⟨i,hi,rfl⟩:=Array.mem_iff_getElem.1 this
  exact h4 i hi
 constructor
 ·exact Array.filter_eq_self.2 fun e he=>by simpa using hall e he
 ·exact Array.filter_eq_empty_iff.2 fun e he=>by have:=hall e he;simp;omega
theorem choose_run (P:Program) (w:World) (n:Nat):∃ j w',(choose (.mapNext n)).run P w=.ok j w'∧(0<n→j<n)∧(w'=w∨w'=w.drew):=by
 rw [run_choose]
 by_cases h:n≤1
 ·have:(Question.mapNext n).forced=true:=by simp [Question.forced,h]
  rw [this]
  exact ⟨0,w,rfl,id,.inl rfl⟩
 ·have:(Question.mapNext n).forced=false:=by simp [Question.forced];omega
  rw [this]
  exact ⟨_,_,rfl,fun hn=>Nat.mod_lt _ hn,.inr rfl⟩
theorem nextI_ok (hdst:∀ i,o.dst=some i→i<C.nt) {x:Operand} {str:Bool} (ho:o.op=.next x str) {pr:PRes} (h:nextI C.ft s o x str=some pr):PrOk C o s pr:=by
  unfold nextI at h
  split at h
  · rename_i b g hx
    split at h
    · rename_i hg
      split at h
      · rename_i k v c rest hb
        cases h
        refine ⟨fun a w Q K hr _ hm=>?_,fun gs hgs=>(by cases hgs),fun _=>trivial⟩
        obtain ⟨κ,F,hr⟩:=hr
        have hv:=opAV_ok hr x
        rw [hx] at hv
        have hv:=hv.2 hg.symm (by rw [hb];rfl)
        have hB:=hr.blks b
        unfold HB at hB
        rw [hb] at hB
        have hd:∀ c,o.op≠.defer c:=by rw [ho];intro c hc;cases hc
        have over:∀ w',(w'=w∨w'=w.drew)→rest=[]→(execOp a.eval o).run C.P w=.ok (.value (.tuple #[.bool false])) w'→o.wpIn (rnd C.r) 0 C.P a w K Q:=by
          intro w' hw' hrest hrun
          have hr2:RelK C s a w' κ F:=by
            rcases hw' with rfl | rfl
            · exact hr
            · exact hr.drew
          have hsb:s.setB b ⟨g,.it k v c rest⟩=s:=by
            unfold AState.setB
            congr 1
            funext i
            by_cases hi:i=b
            · rw [if_pos hi,hi,←hb,←hg]
            · rw [if_neg hi]
          refine oper_value hd hrun (hm.2 none hrest _ _ ⟨κ,F,RelK.set (s:=s.setB b ⟨g,.it k v c rest⟩) (by rw [hsb];exact hr2) hdst ⟨[.bool false],rfl,rfl,fun n hn=>?_⟩⟩)
          have:n=0:=by simp only [nxtN] at hn;omega
          subst this
          exact RV_bool.2 rfl
        rcases hB with ⟨h1,h2,_⟩ | ⟨mr,es,clk,seen,h1,h2,h3,h4,h5,⟨ids,i1,i2,i3,i4⟩,h7⟩
        · refine over w (.inl rfl) h2 ?_
          have hg1:(getObj (κ b).blk).run C.P w=.ok (.mapIter none 0 #[] 0) w:=by simp [getObj,Sem.run,h1]
          simp [execOp,ho,Instr.next,hv,hg1]
        · have hg1:(getObj (κ b).blk).run C.P w=.ok (.mapIter (some mr) clk seen clk) w:=by simp [getObj,Sem.run,h3]
          have hg2:(getObj mr).run C.P w=.ok (.map es clk) w:=by simp [getObj,Sem.run,h2]
          obtain ⟨f1,f2⟩:=iter_left (seen:=seen) h4
          have hall:(!seen.isEmpty&&!es.isEmpty&&es.all (fun e=>decide (e.born≥clk)))=false:=by
            by_cases he:es.size=0
            · have:es=#[]:=Array.eq_empty_of_size_eq_zero he
              simp [this]
            · have:es.all (fun e=>decide (e.born≥clk))=false:=by
                rw [Array.all_eq_false]
                exact ⟨0,by omega,by have:=h4 0 (by omega);simp;omega⟩
              rw [this];simp
          generalize hleft:(es.filter fun e=>!seen.contains e.born)=left at f1 f2
          have hcand:((if left.isEmpty=true then #[none] else #[])++Array.map some (left++(#[]:Array MapEntry)))=(if left.isEmpty=true then #[none] else Array.map some left):=by
            split
            · rename_i hl
              have:left=#[]:=by simpa using hl
              simp [this]
            · simp
          obtain ⟨j,w',c1,c2,c3⟩:=choose_run C.P w (if left.isEmpty=true then #[none] else Array.map some left).size
          have hh:w'.heap=w.heap:=by rcases c3 with rfl | rfl<;>rfl
          have hrun0 : ∀ r w2, (match (if left.isEmpty = true then #[none] else Array.map some left)[j]? with
                | some (some e)=>(do setObj (κ b).blk (.mapIter (some mr) clk (seen.push e.born) clk);pure (.tuple #[.bool true,e.key,e.val]):Sem Value)
                | some none=>pure (.tuple #[.bool false])
                | none => stuck "Next: no such candidate").run C.P w' = .ok r w2 → (execOp a.eval o).run C.P w = .ok (.value r) w2 := by
            intro r w2 hr2
            simp only [execOp,ho,Instr.next,hv,Sem.run_bind,hg1,Result.andThen_ok,hg2,hall,Bool.false_eq_true,if_false,hleft,f1,f2,hcand,c1]
            exact (congrArg (fun (z:Result Value)=>z.andThen fun v w'=>Sem.run C.P (Pure.pure (Next.value v)) w') hr2).trans rfl
          by_cases hle:left.isEmpty=true
          · have hl0:left=#[]:=by simpa using hle
            have hrest:rest=[]:=by
              have:ids=[]:=List.eq_nil_iff_forall_not_mem.2 fun i hi=>by
                obtain ⟨hi1,hi2⟩:=(i3 i).1 hi
                have:es[i]∈left:=by
                  rw [←hleft]
                  exact Array.mem_filter.2 ⟨by simp,by simpa using hi2⟩
                rw [hl0] at this
                simp at this
              rw [this] at i1
              exact List.eq_nil_of_length_eq_zero i1.symm
            rw [hle] at hrun0 c2
            simp only [if_true] at hrun0 c2
            have hj:j=0:=by have:=c2 (by simp);simp at this;exact this
            subst hj
            exact over w' c3 hrest (hrun0 _ _ rfl)
          · have hle:left.isEmpty=false:=by simpa using hle
            rw [hle] at hrun0 c2
            simp only [Bool.false_eq_true,if_false] at hrun0 c2
            have hlp:0<left.size:=by
              rcases Nat.eq_zero_or_pos left.size with h0 | h0
              · have:=Array.eq_empty_of_size_eq_zero h0
                rw [this] at hle;simp at hle
              · exact h0
            have hj:j<left.size:=by have:=c2 (by simpa using hlp);simpa using this
            have hmem:left[j]∈(es.filter fun e=>!seen.contains e.born):=by rw [hleft];simp
            obtain ⟨hme,hms⟩:=Array.mem_filter.1 hmem
            obtain ⟨i0,hi0,he0⟩:=Array.mem_iff_getElem.1 hme
            have hi0m:i0∈ids:=(i3 i0).2 ⟨hi0,by rw [he0];simpa using hms⟩
            obtain ⟨q,hq,hqe⟩:=List.mem_iff_getElem.1 hi0m
            have hqr:q<rest.length:=by omega
            have hset:(setObj (κ b).blk (.mapIter (some mr) clk (seen.push left[j].born) clk)).run C.P w'=.ok () { w' with heap:=w'.heap.setIfInBounds (κ b).blk (.mapIter (some mr) clk (seen.push left[j].born) clk) }:=by
              simp [setObj,Sem.run,hh,h3]
            have hrun:=hrun0 (.tuple #[.bool true,left[j].key,left[j].val]) { w' with heap:=w'.heap.setIfInBounds (κ b).blk (.mapIter (some mr) clk (seen.push left[j].born) clk) } (by
              rw [show (Array.map some left)[j]?=some (some left[j]) by simp [hj]]
              simp only [Sem.run_bind,hset,Result.andThen_ok,Sem.run_pure])
            have hcm:Calm w w':=by rcases c3 with rfl | rfl<;>exact ⟨rfl,rfl,rfl⟩
            have hlt:(κ b).blk<w.heap.size:=(Array.getElem?_eq_some_iff.1 h3).1
            have hne:mr≠(κ b).blk:=fun e=>(hr.own b (by rw [hb];rfl)).2.1 (e ▸ h1)
            have hl2:Later s.blk κ (fun i=>if i=b then (⟨g,.it k v rest[q]? (rest.eraseIdx q)⟩:ABlk) else s.blk i) κ:=
              later_same hg.symm (fun h=>by cases h) (fun h=>by cases h) (fun h=>by cases h) (fun _=>by rw [hb];rfl)
            have hw2:=hr.write (b:=b) (x:=⟨g,.it k v rest[q]? (rest.eraseIdx q)⟩) (w':={ w' with heap:=w'.heap.setIfInBounds (κ b).blk (.mapIter (some mr) clk (seen.push left[j].born) clk) }) (by rw [hb];rfl) rfl hl2 (fun h=>by cases h) (fun h=>by cases h)
              (fun r hrb=>by simp only [hh];exact Array.getElem?_setIfInBounds_ne (Ne.symm hrb)) (by simp [hh]) ⟨hcm.os,hcm.tape,hcm.output⟩ fun H _ _ he=>by
                refine .inr ⟨mr,es,clk,seen.push left[j].born,h1,?_,by simp [hh,hlt],h4,h5,⟨ids.eraseIdx q,?_,?_,fun i=>?_,fun n hn hn'=>?_⟩,fun c' hc'=>?_⟩
                · rw [←h2];simp only [hh];exact Array.getElem?_setIfInBounds_ne (Ne.symm hne)
                · rw [List.length_eraseIdx,List.length_eraseIdx,i1]
                · exact i2.sublist (List.eraseIdx_sublist _ _)
                · rw [List.mem_eraseIdx_iff_getElem]
                  constructor
                  · rintro ⟨n,hn,hnq,rfl⟩
                    obtain ⟨u1,u2⟩:=(i3 ids[n]).1 (by simp)
                    refine ⟨u1,?_⟩
                    simp only [Array.contains_push,Bool.or_eq_false_iff]
                    refine ⟨u2,?_⟩
                    rw [←he0]
                    simp only [beq_eq_false_iff_ne,ne_eq]
                    intro e
                    have:ids[n]=i0:=h5 _ _ u1 hi0 (by first | exact e | exact e.symm)
                    exact hnq ((List.getElem?_inj hn i2).1 (by rw [List.getElem?_eq_getElem hn,List.getElem?_eq_getElem hq,this,hqe]))
                  · rintro ⟨u1,u2⟩
                    simp only [Array.contains_push,Bool.or_eq_false_iff] at u2
                    obtain ⟨n,hn,rfl⟩:=List.mem_iff_getElem.1 ((i3 i).2 ⟨u1,u2.1⟩)
                    refine ⟨n,hn,fun e=>?_,rfl⟩
                    subst e
                    have h0:=u2.2
                    have:es[ids[n]]=es[i0]:=by congr 1
                    rw [this,he0] at h0
                    simp at h0
                · have hnn:(ids.eraseIdx q)[n]=if h:n<q then ids[n]'(by rw [List.length_eraseIdx] at hn;split at hn<;>omega) else ids[n+1]'(by rw [List.length_eraseIdx] at hn;split at hn<;>omega):=by
                    rw [List.getElem_eraseIdx]
                  have hnr:(rest.eraseIdx q)[n]=if h:n<q then rest[n]'(by rw [List.length_eraseIdx] at hn';split at hn'<;>omega) else rest[n+1]'(by rw [List.length_eraseIdx] at hn';split at hn'<;>omega):=by
                    rw [List.getElem_eraseIdx]
                  have hlen:n+1<ids.length:=by rw [List.length_eraseIdx] at hn;split at hn<;>omega
                  by_cases hnq:n<q
                  · obtain ⟨u1,u2⟩:=i4 n (by omega) (by omega)
                    simp only [hnn,hnr,hnq,dif_pos]
                    exact ⟨u1,u2.mono (fun _ h=>h) he⟩
                  · obtain ⟨u1,u2⟩:=i4 (n+1) hlen (by omega)
                    simp only [hnn,hnr,hnq,dif_neg,not_false_eq_true]
                    exact ⟨u1,u2.mono (fun _ h=>h) he⟩
                · rw [List.getElem?_eq_getElem hqr] at hc'
                  cases hc'
                  obtain ⟨u1,u2⟩:=i4 q hq hqr
                  refine ⟨i0,hi0,by simp [he0],?_⟩
                  have e1:es[ids[q]]=es[i0]:=by congr 1
                  rw [e1] at u2
                  exact u2.mono (fun _ h=>h) he
            refine oper_value hd hrun (hm.2 (some q) hqr _ _ ⟨κ,F,RelK.set (s:=s.setB b _) hw2 hdst ⟨[.bool true,left[j].key,left[j].val],rfl,rfl,fun n hn=>?_⟩⟩)
            match n,hn with
            | 0,_=>exact RV_bool.2 rfl
            | 1,_=>trivial
            | 2,_=>trivial
      · cases h
    · cases h
  · cases h
end
end Go.Fer
namespace Go.Fer
open Go.RowKit
def GV:List (Option Nat)→List Value→List Value→Prop
 | [],[],vs=>vs=[]
 | none::g,u::us,vs=>∃ vs',vs=u::vs'∧GV g us vs'
 | some n::g,u::us,vs=>∃ cs vs',u=.agg cs∧cs.size=n∧(∀ c∈cs.toList,c.oneCell'=true)∧vs=cs.toList++vs'∧GV g us vs'
 | _,_,_=>False
def GrpVal (g:List (Option Nat)) (v:Value) (vs:List Value):Prop:=∃ us:List Value,us.length=g.length∧v=(if us.length=1 then us.getD 0 undef else .tuple us.toArray)∧GV g us vs
structure IoSpec (P:Program) (U:FnTab) (k:FuncId) (c:IOC):Prop where
 enter:∀ args w,(callFunc k args).run P w=.ok (.enter k args) w
 calls:∀ (C:Ctx) (a:Act) (w:World) (κ:Nat→KB) (F:Nat→Prop) (σ:c.sin.Den),C.P=P→C.w0=w→C.r=none→C.dfr=[]→C.nt=c.nargs→C.ft=U→RelK C (c.sin.st σ) a w κ F→(c.sh σ).safe→
  Calls P k a.tmps w fun e w'=>∃ v τ vs κ' F',e=.returned v∧(c.sh σ).out τ∧GrpVal c.grp v vs∧RelK { C with nt:=vs.length } (c.out.st τ) { tmps:=vs.toArray,defers:=[] } w' κ' F'
section
variable {P:Program} {H H':Nat→ABlk} {κ κ':Nat→KB} {F:Nat→Prop} {w:World} {g:Nat→Nat×Nat}
def Lk (H H':Nat→ABlk) (κ κ':Nat→KB) (g:Nat→Nat×Nat):Prop:=∀ b,(H b).gen=0∧Later1 ⟨(g b).2,(H b).body⟩ (H' (g b).1) (κ b) (κ' (g b).1)
theorem Lk.loc (h:Lk H H' κ κ' g) {b off:Nat} {v:Value} (hv:RA P H κ F w (.loc b 0 off) v):RA P H' κ' F w (.loc (g b).1 (g b).2 off) v:=by
 obtain ⟨h0,k1,k2⟩:=h b
 refine ⟨⟨k1,hv.1.2⟩,fun hg hc=>?_⟩
 obtain ⟨c1,c2⟩:=(k2 hg).1 hc
 rw [c2]
 exact hv.2 h0.symm c1
theorem Lk.av (h:Lk H H' κ κ' g) (t:TAV) {R:Type} (z:t.cons R) {v:Value} (hv:RA P H κ F w (t.av gId z).1 v):RA P H' κ' F w (t.av g z).1 v:=by
 cases t with
 | undef=>trivial
 | val t=>exact hv
 | pp t=>exact hv
 | loc b off=>exact h.loc hv
 | own b=>
  obtain ⟨h0,k1,k2⟩:=h b
  refine ⟨⟨k1,hv.1.2⟩,fun hg hc=>?_⟩
  obtain ⟨c1,c2,c3,c4⟩:=(k2 hg).2.1 hc
  rw [c2,c3]
  exact hv.2 h0.symm c1
 | sub b=>
  obtain ⟨h0,k1,k2⟩:=h b
  refine ⟨⟨k1,hv.1.2⟩,fun hg hc=>?_⟩
  obtain ⟨c1,c2,c3,c4⟩:=(k2 hg).2.1 hc
  rw [c2,c3,c4]
  exact hv.2 h0.symm c1
 | mapl b=>
  obtain ⟨h0,k1,k2⟩:=h b
  refine ⟨⟨k1,hv.1.2⟩,fun hg hc=>?_⟩
  obtain ⟨c1,c2⟩:=(k2 hg).2.2.1 hc
  rw [c2]
  exact hv.2 h0.symm c1
 | iter b=>
  obtain ⟨h0,k1,k2⟩:=h b
  refine ⟨⟨k1,hv.1.2⟩,fun hg hc=>?_⟩
  obtain ⟨c1,c2⟩:=(k2 hg).2.2.2 hc
  rw [c2]
  exact hv.2 h0.symm c1
 | nils=>exact hv
 | clo k ls=>
  obtain ⟨vs,h1,h2,h3⟩:=hv
  refine ⟨vs,h1,h2,fun i hi=>?_⟩
  have:=h3 i hi
  have e1:cloCaps gId ls i=.loc ls[i].1 0 ls[i].2:=by simp [cloCaps,nthAV,List.getD_eq_getElem?_getD,hi,gId]
  have e2:cloCaps g ls i=.loc (g ls[i].1).1 (g ls[i].1).2 ls[i].2:=by simp [cloCaps,nthAV,List.getD_eq_getElem?_getD,hi]
  rw [e1] at this
  rw [e2]
  exact h.loc this
 | row bs=>
  obtain ⟨vs,h1,h2,h3⟩:=hv
  refine ⟨vs,h1,h2,fun i hi=>?_⟩
  obtain ⟨this,hc'⟩:=h3 i hi
  refine ⟨?_,hc'⟩
  have e1:rowAV gId bs i=.own bs[i] 0:=by simp [rowAV,nthAV,List.getD_eq_getElem?_getD,hi,gId]
  have e2:rowAV g bs i=.own (g bs[i]).1 (g bs[i]).2:=by simp [rowAV,nthAV,List.getD_eq_getElem?_getD,hi]
  rw [e1] at this
  rw [e2]
  obtain ⟨h0,k1,k2⟩:=h bs[i]
  refine ⟨⟨k1,this.1.2⟩,fun hg hc=>?_⟩
  obtain ⟨c1,c2,c3,c4⟩:=(k2 hg).2.1 hc
  rw [c2,c3]
  exact this.2 h0.symm c1
 | nos b=>
  obtain ⟨h0,k1,k2⟩:=h b
  refine ⟨⟨k1,hv.1.2⟩,fun hg hc=>?_⟩
  obtain ⟨c1,c2⟩:=(k2 hg).1 hc
  rw [c2]
  exact hv.2 h0.symm c1
 | tr A=>trivial
 | yld=>exact hv
theorem av_rest (t:TAV) {R:Type} (z:t.cons R):(t.av g z).2=(t.av gId z).2:=by cases t<;>rfl
theorem avL_rest:∀ (ts:List TAV) {R:Type} (z:consL ts R),(avL g ts z).2=(avL gId ts z).2
 | [],_,_=>rfl
 | t::ts,_,z=>by simp only [avL];rw [av_rest (g:=g) t z];exact avL_rest ts _
theorem body_rest (t:TB) {R:Type} (z:t.cons R):(t.body g z).2=(t.body gId z).2:=by
 cases t with
 | cells t l=>exact avL_rest l z
 | _=>rfl
theorem slotsL_rest:∀ (ts:List (Nat×TAV)) {R:Type} (z:slotDen ts R),(slotsL g ts z).2=(slotsL gId ts z).2
 | [],_,_=>rfl
 | p::ts,_,z=>by simp only [slotsL];rw [av_rest (g:=g) p.2 z];exact slotsL_rest ts _
theorem Lk.avs (h:Lk H H' κ κ' g):∀ (ts:List TAV) {R:Type} (z:consL ts R) (i:Nat) {v:Value},RA P H κ F w ((avL gId ts z).1.getD i .undef) v→RA P H' κ' F w ((avL g ts z).1.getD i .undef) v
 | [],_,_,i,v,_=>by simp [avL,RA]
 | t::ts,_,z,i,v,hv=>by
  simp only [avL] at hv ⊢
  cases i with
  | zero=>exact h.av t z hv
  | succ i=>
   simp only [List.getD_cons_succ] at hv ⊢
   rw [av_rest (g:=g) t z]
   exact h.avs ts _ i hv
theorem Lk.slots (h:Lk H H' κ κ' g):∀ (ts:List (Nat×TAV)) {R:Type} (z:slotDen ts R) (i:Nat) {v:Value},RA P H κ F w (look (slotsL gId ts z).1 i) v→RA P H' κ' F w (look (slotsL g ts z).1 i) v
 | [],_,_,i,v,_=>by simp [slotsL,look,RA]
 | p::ts,_,z,i,v,hv=>by
  simp only [slotsL,look] at hv ⊢
  by_cases e:i=p.1
  ·rw [if_pos e] at hv ⊢
   exact h.av p.2 z hv
  ·rw [if_neg e] at hv ⊢
   rw [av_rest (g:=g) p.2 z]
   exact h.slots ts _ i hv
theorem slots_tr:∀ (ts:List (Nat×TAV)) {R:Type} (z:slotDen ts R) (i:Nat) {l A L n st},look (slotsL g ts z).1 i=.tr l A L n st→look (slotsL gId ts z).1 i=.tr l A L n st
 | [],_,_,i,_,_,_,_,_,h=>by simp [slotsL,look] at h
 | p::ts,_,z,i,l,A,L,n,st,h=>by
  simp only [slotsL,look] at h ⊢
  by_cases e:i=p.1
  ·rw [if_pos e] at h ⊢
   obtain ⟨p1,t⟩:=p
   cases t<;>first | exact h | cases h
  ·rw [if_neg e] at h ⊢
   rw [av_rest (g:=g) p.2 z] at h
   exact slots_tr ts _ i h
def SameB (x y:Body):Prop:=x.isCells=y.isCells∧x.isArr=y.isArr∧x.len=y.len∧x.esz=y.esz∧x.isMap=y.isMap∧x.isIt=y.isIt∧∀ k,x.owned k=y.owned k
theorem SameB.refl (x:Body):SameB x x:=⟨rfl,rfl,rfl,rfl,rfl,rfl,fun _=>rfl⟩
theorem body_same (t:TB) {R:Type} (z:t.cons R):SameB (t.body g z).1 (t.body gId z).1:=by
 cases t with
 | cells t l=>exact ⟨rfl,rfl,rfl,rfl,rfl,rfl,fun _=>rfl⟩
 | _=>exact SameB.refl _
theorem leafs_any:∀ (t:Ty) (x:t.Den) (av:AV),av∈leafs t x→∀ {v:Value},RA P H κ F w av v→RA P H' κ' F w av v:=by
  intro t
  induction t with
  | unit=>intro x av h;cases h
  | st t ih=>intro x av h;exact ih x av h
  | prod a b iha ihb=>
   intro x av h
   rcases List.mem_append.1 h with h | h
   ·exact iha _ av h
   ·exact ihb _ av h
  | array n e ih=>
   intro x av h
   simp only [leafs,List.mem_flatMap] at h
   obtain ⟨i,_,h⟩:=h
   exact ih _ av h
  | _=>
   intro x av h v hv
   simp only [leafs,List.mem_singleton] at h
   subst h
   exact hv
theorem Lk.body (h:Lk H H' κ κ' g) (t:TB) {R:Type} (z:t.cons R) {k:KB} (hb:HBody P H κ F w k (t.body gId z).1):HBody P H' κ' F w k (t.body g z).1:=by
 cases t with
 | cells t l=>
  obtain ⟨cs,T,h1,h2,h3⟩:=hb
  exact ⟨cs,T,h1,h2,fun i hi=>⟨h.avs l z i (h3 i hi).1,(h3 i hi).2⟩⟩
 | whole t=>
  obtain ⟨cs,T,h1,h2,h3⟩:=hb
  refine ⟨cs,T,h1,h2,fun i hi=>⟨?_,(h3 i hi).2⟩⟩
  have:=(h3 i hi).1
  unfold nthAV at this ⊢
  rw [List.getD_eq_getElem?_getD] at this ⊢
  cases hl:(leafs t z.1)[i]? with
  | none=>trivial
  | some av=>
   rw [hl] at this
   simp only [Option.getD_some] at this ⊢
   have hmem:=List.mem_of_getElem? hl
   exact leafs_any t z.1 av hmem this
 | arr e=>exact hb
 | froz e=>exact hb
 | mp k v=>exact hb
 | frzm k v=>exact hb
 | frzc t=>exact hb
 | it k v=>exact hb
 | pool e=>exact hb
theorem lookB_rest {l:List (Nat×TB)} {x y:blkDen l} (h:x=y) (g:Nat→Nat×Nat) (b:Nat):lookB (blksL g l x) b=lookB (blksL g l y) b:=by rw [h]
theorem lookB_same:∀ (l:List (Nat×TB)) (x:blkDen l) (b:Nat),SameB (lookB (blksL g l x) b).body (lookB (blksL gId l x) b).body
 | [],_,_=>SameB.refl _
 | p::l,x,b=>by
  simp only [blksL,lookB]
  split
  ·exact body_same p.2 x
  ·rw [body_rest (g:=g) p.2 x];exact lookB_same l _ b
theorem lookB_pool:∀ (l:List (Nat×TB)) (x:blkDen l) (b:Nat) {e:Ty} {m:List (Nat×List e.Den)},(lookB (blksL g l x) b).body=.pool e m→(lookB (blksL gId l x) b).body=.pool e m
 | [],_,_,_,_,h=>by cases h
 | p::l,x,b,e,m,h=>by
  simp only [blksL,lookB] at h ⊢
  by_cases k:b=p.1
  ·rw [if_pos k] at h ⊢
   obtain ⟨p1,t⟩:=p
   cases t<;>first | exact h | cases h
  ·rw [if_neg k] at h ⊢
   rw [body_rest (g:=g) p.2 x] at h
   exact lookB_pool l _ b h
theorem Lk.blks (h:Lk H H' κ κ' g):∀ (l:List (Nat×TB)) (x:blkDen l) (b:Nat) {k:KB},HBody P H κ F w k (lookB (blksL gId l x) b).body→HBody P H' κ' F w k (lookB (blksL g l x) b).body
 | [],_,_,k,_=>trivial
 | p::l,x,b,k,hb=>by
  simp only [blksL,lookB] at hb ⊢
  split
  ·rename_i e
   rw [if_pos e] at hb
   exact h.body p.2 x hb
  ·rename_i e
   rw [if_neg e] at hb
   rw [body_rest (g:=g) p.2 x]
   exact h.blks l _ b hb
theorem lookB_gen:∀ (l:List (Nat×Body)) (b:Nat),(lookB l b).gen=0
 | [],_=>rfl
 | p::l,b=>by
  simp only [lookB]
  split
  ·rfl
  ·exact lookB_gen l b
end
end Go.Fer
namespace Go.Fer
open Go.RowKit
theorem find_key {α:Type} {k:α→Nat}:∀ {l:List α},(l.map k).Nodup→∀ {p:α},p∈l→l.find? (fun q=>k q == k p)=some p
 | [],_,_,h=>by cases h
 | a::l,hn,p,h=>by
  simp only [List.map_cons,List.nodup_cons] at hn
  by_cases e:k a=k p
  ·rcases List.mem_cons.1 h with rfl | h
   ·simp
   ·exact (hn.1 (e ▸ List.mem_map_of_mem h)).elim
  ·rw [List.find?_cons_of_neg (by simpa using e)]
   rcases List.mem_cons.1 h with rfl | h
   ·exact (e rfl).elim
   ·exact find_key hn.2 h
theorem key_inj {α:Type} {k:α→Nat} {l:List α} (hn:(l.map k).Nodup) {p q:α} (hp:p∈l) (hq:q∈l) (e:k p=k q):p=q:=by
 have h1:=find_key hn hp
 rw [e,find_key hn hq] at h1
 exact (Option.some.inj h1).symm
theorem lookG_mem:∀ {l:List (Nat×(Nat×Nat))},(l.map (·.1)).Nodup→∀ {p},p∈l→lookG l p.1=p.2
 | [],_,_,h=>by cases h
 | a::l,hn,p,h=>by
  simp only [List.map_cons,List.nodup_cons] at hn
  simp only [lookG]
  by_cases e:p.1=a.1
  ·rw [if_pos e]
   rcases List.mem_cons.1 h with rfl | h
   ·rfl
   ·exact (hn.1 (e ▸ List.mem_map_of_mem h)).elim
  ·rw [if_neg e]
   rcases List.mem_cons.1 h with rfl | h
   ·exact (e rfl).elim
   ·exact lookG_mem hn.2 h
theorem lookG_not:∀ {l:List (Nat×(Nat×Nat))} {b:Nat},b ∉ l.map (·.1)→lookG l b=(DEADB,0)
 | [],_,_=>rfl
 | a::l,b,h=>by
  simp only [List.map_cons,List.mem_cons,not_or] at h
  simp only [lookG]
  rw [if_neg h.1]
  exact lookG_not h.2
theorem outG_ids (s:AState) (d:Nat) (f:Nat→Nat) (ins:List Nat):∀ (l:List (Nat×TB)) (j:Nat),(outG s d f ins l j).map (·.1)=l.map (·.1)
 | [],_=>rfl
 | p::l,j=>by
  simp only [outG,List.map_cons,outG_ids s d f ins l (j+1)]
  split
  ·rfl
  ·split<;>rfl
theorem outG_mem (s:AState) (d:Nat) (f:Nat→Nat) (ins:List Nat):∀ (l:List (Nat×TB)) (j:Nat) {p:Nat×(Nat×Nat)},p∈outG s d f ins l j→
  (p.1∈ins∧p.2.1=f p.1∧∃ t,(p.1,t)∈l∧((p.2.2=(s.blk (f p.1)).gen∧((∀ (g:Nat→Nat×Nat) (R:Type) (z:t.cons R),(t.body g z).1.isArr=false)∨(KEEPB≤p.1∧∃ e,t=.arr e)))∨p.2.2=(s.blk (f p.1)).gen+1))∨
  (p.1 ∉ ins∧p.2.2=(s.blk p.2.1).gen+1∧50000+10*d+j≤p.2.1∧p.2.1<50000+10*d+j+l.length)∨
  (p.2=(POOLN,(s.blk POOLN).gen)∧∃ e,(p.1,TB.pool e)∈l)
 | [],_,p,h=>by cases h
 | q::l,j,p,h=>by
  simp only [outG,List.mem_cons] at h
  rcases h with h | h
  ·by_cases hpl:q.2.isPool=true
   ·rw [if_pos hpl] at h
    subst h
    obtain ⟨q1,q2⟩:=q
    cases q2<;>first | exact .inr (.inr ⟨rfl,_,List.mem_cons_self⟩) | cases hpl
   rw [if_neg hpl] at h
   by_cases hq:ins.contains q.1=true
   ·rw [if_pos hq] at h
    subst h
    refine .inl ⟨by simpa using hq,rfl,q.2,by simp,?_⟩
    obtain ⟨q1,t⟩:=q
    cases t with
    | arr e=>
     by_cases hk:KEEPB≤q1
     ·exact .inl ⟨by simp [hk],.inr ⟨hk,e,rfl⟩⟩
     ·exact .inr (by simp [hk])
    | pool e=>exact (hpl rfl).elim
    | _=>first | exact .inr rfl | exact .inl ⟨rfl,.inl fun _ _ _=>rfl⟩
   ·rw [if_neg hq] at h
    subst h
    refine .inr (.inl ⟨by simpa using hq,rfl,by simp,by simp⟩)
  ·rcases outG_mem s d f ins l (j+1) h with ⟨h1,h2,t,h3,h4⟩ | ⟨h1,h2,h3,h4⟩ | ⟨h1,e,h2⟩
   ·exact .inl ⟨h1,h2,t,List.mem_cons_of_mem _ h3,h4⟩
   ·exact .inr (.inl ⟨h1,h2,by omega,by simp only [List.length_cons];omega⟩)
   ·exact .inr (.inr ⟨h1,e,List.mem_cons_of_mem _ h2⟩)
theorem lookB_cases (g:Nat→Nat×Nat):∀ (l:List (Nat×TB)) (x:blkDen l) (b:Nat),(lookB (blksL g l x) b=⟨0,.dead⟩∧b ∉ l.map (·.1))∨∃ q∈l,q.1=b∧∃ (R:Type) (z:q.2.cons R),lookB (blksL g l x) b=⟨0,(q.2.body g z).1⟩
 | [],_,_=>.inl ⟨rfl,by simp⟩
 | p::l,x,b=>by
  simp only [blksL,lookB]
  by_cases e:b=p.1
  ·rw [if_pos e]
   exact .inr ⟨p,by simp,e.symm,_,x,rfl⟩
  ·rw [if_neg e]
   rcases lookB_cases g l (p.2.body g x).2 b with ⟨h1,h2⟩ | ⟨q,h1,h2⟩
   ·exact .inl ⟨h1,by rw [List.map_cons,List.mem_cons,not_or];exact ⟨e,h2⟩⟩
   ·exact .inr ⟨q,List.mem_cons_of_mem _ h1,h2⟩
theorem outG_pool (s:AState) (d:Nat) (f:Nat→Nat) (ins:List Nat):∀ (l:List (Nat×TB)) (j:Nat) {q:Nat×TB},q∈l→q.2.isPool=true→POOLN∈(outG s d f ins l j).map (·.2.1)
 | [],_,_,h,_=>by cases h
 | p::l,j,q,h,hq=>by
  simp only [outG,List.map_cons,List.mem_cons]
  rcases List.mem_cons.1 h with rfl | h
  ·exact .inl (by rw [if_pos hq])
  ·exact .inr (outG_pool s d f ins l (j+1) h hq)
theorem poolB (g:Nat→Nat×Nat):∀ (l:List (Nat×TB)) (x:blkDen l) {b:Nat} {e:Ty},(l.map (·.1)).Nodup→(b,TB.pool e)∈l→∃ m,lookB (blksL g l x) b=⟨0,.pool e m⟩
 | [],_,_,_,_,h=>by cases h
 | p::l,x,b,e,hn,h=>by
  simp only [List.map_cons,List.nodup_cons] at hn
  simp only [blksL,lookB]
  rcases List.mem_cons.1 h with rfl | h
  ·exact ⟨_,if_pos rfl⟩
  ·rw [if_neg fun k:b=p.1=>hn.1 (by rw [←k];exact List.mem_map_of_mem (f:=(·.1)) h)]
   exact poolB g l _ hn.2 h
theorem kin_body {t u:TB} (h:t.kin u=true) {g g':Nat→Nat×Nat} {R R':Type} (z:t.cons R) (z':u.cons R') :
  ((t.body g z).1.isCells=true→(u.body g' z').1.isCells=true∧∀ k,(u.body g' z').1.owned k=true)∧((t.body g z).1.isMap=true→(u.body g' z').1.isMap=true∧∀ k,(u.body g' z').1.owned k=true)∧(t.body g z).1.isIt=false:=by
 cases t<;>cases u<;>first
  | exact Bool.noConfusion h
  | exact ⟨fun _=>⟨rfl,fun _=>rfl⟩,fun h=>Bool.noConfusion h,rfl⟩
  | exact ⟨fun h=>Bool.noConfusion h,fun _=>⟨rfl,fun _=>rfl⟩,rfl⟩
  | exact ⟨fun h=>Bool.noConfusion h,fun h=>Bool.noConfusion h,rfl⟩
theorem look_none:∀ (ts:List (Nat×TAV)) {R:Type} (g:Nat→Nat×Nat) (z:slotDen ts R) (i:Nat),ts.any (fun p=>p.1 == i)=false→look (slotsL g ts z).1 i=.undef
 | [],_,_,_,_,_=>rfl
 | p::ts,_,g,z,i,h=>by
  simp only [List.any_cons,Bool.or_eq_false_iff,beq_eq_false_iff_ne] at h
  simp only [slotsL,look]
  rw [if_neg (Ne.symm h.1)]
  exact look_none ts g _ i h.2
theorem grp_ok {P:Program} {H:Nat→ABlk} {κ:Nat→KB} {F:Nat→Prop} {w:World}:∀ (g:List (Option Nat)) {us vs:List Value},GV g us vs→∀ (c:Nat→AV) (i:Nat),(∀ j,j<vs.length→RA P H κ F w (c (i+j)) (vs.getD j undef))→
  (grpAV g c i).length=g.length∧us.length=g.length∧∀ j,j<g.length→RA P H κ F w ((grpAV g c i).getD j .undef) (us.getD j undef)
 | [],[],vs,_,_,_,_=>⟨rfl,rfl,fun j hj=>by cases hj⟩
 | [],_::_,_,h,_,_,_=>h.elim
 | none::g,[],_,h,_,_,_=>h.elim
 | some n::g,[],_,h,_,_,_=>h.elim
 | none::g,u::us,vs,h,c,i,hv=>by
  obtain ⟨vs',rfl,h⟩:=h
  obtain ⟨h1,h2,h3⟩:=grp_ok g h c (i+1) fun j hj=>by
   have:=hv (j+1) (by simpa using hj)
   rw [show i+(j+1)=i+1+j by omega] at this
   simpa using this
  refine ⟨by simp [grpAV,h1],by simp [h2],fun j hj=>?_⟩
  cases j with
  | zero=>simpa [grpAV] using hv 0 (by simp)
  | succ j=>simpa [grpAV] using h3 j (by simpa using hj)
 | some n::g,u::us,vs,h,c,i,hv=>by
  obtain ⟨cs,vs',rfl,hn,hone,rfl,h⟩:=h
  obtain ⟨h1,h2,h3⟩:=grp_ok g h c (i+n) fun j hj=>by
   have:=hv (n+j) (by simp only [List.length_append,Array.length_toList];omega)
   rw [show i+(n+j)=i+n+j by omega] at this
   have e:(cs.toList++vs').getD (n+j) undef=vs'.getD j undef:=by
    rw [List.getD_eq_getElem?_getD,List.getD_eq_getElem?_getD,List.getElem?_append_right (by simp;omega)]
    congr 2
    simp;omega
   rw [e] at this
   exact this
  refine ⟨by simp [grpAV,h1],by simp [h2],fun j hj=>?_⟩
  cases j with
  | zero=>
   simp only [grpAV,List.getD_cons_zero]
   refine ⟨cs.toList,by simp,by simpa using hn,fun j hj=>?_⟩
   have hj':j<cs.size:=by omega
   have:=hv j (by simp;omega)
   have e:(cs.toList++vs').getD j undef=cs.toList.getD j undef:=by
    rw [List.getD_eq_getElem?_getD,List.getD_eq_getElem?_getD,List.getElem?_append_left (by simpa using hj')]
   rw [e] at this
   refine ⟨this,?_⟩
   rw [List.getD_eq_getElem?_getD,List.getElem?_eq_getElem (by simpa using hj')]
   exact hone _ (List.getElem_mem _)
  | succ j=>simpa [grpAV] using h3 j (by simpa using hj)
theorem grpVal_ok {P:Program} {H:Nat→ABlk} {κ:Nat→KB} {F:Nat→Prop} {w:World} {g:List (Option Nat)} {v:Value} {vs:List Value} (h:GrpVal g v vs) {c:Nat→AV} (hv:∀ j,RA P H κ F w (c j) (vs.getD j undef)) :
  RA P H κ F w (grpRes (grpAV g c 0)) v:=by
 obtain ⟨us,h1,h2,h3⟩:=h
 obtain ⟨k1,_,k3⟩:=grp_ok g h3 c 0 (fun j _=>by simpa using hv j)
 subst h2
 generalize grpAV g c 0=l at k1 k3
 unfold grpRes
 split
 ·rename_i av
  have:us.length=1:=by rw [h1,←k1];rfl
  rw [if_pos this]
  have:=k3 0 (by rw [←k1];simp)
  simpa using this
 ·rename_i hl
  have hne:us.length≠1:=fun e=>by
   have:l.length=1:=by omega
   match l,this with
   | [x],_=>exact hl x rfl
  rw [if_neg hne]
  refine ⟨us,rfl,by omega,fun i hi=>?_⟩
  unfold nthAV
  exact k3 i (by omega)
end Go.Fer
namespace Go.Fer
open Go.RowKit
section
variable {C:Ctx} {s:AState} {a:Act} {w:World} {κ:Nat→KB} {F:Nat→Prop}
theorem RelK.args (hr:RelK C s a w κ F) {avs:List AV} {us:List Value} (hn:us.length≤TMAX) (hl:avs.length=us.length) (hv:∀ i,i<us.length→RA C.P s.blk κ F w (avs.getD i .undef) (us.getD i undef)) :
    RelK { C with nt:=us.length,dfr:=[],r:=none } (argSt s avs) { tmps:=us.toArray,defers:=[] } w κ F:=
  { hr with
    tsz:=by simp,dfr:=rfl,nsz:=hn
    slots:=fun i=>by
      show RA C.P s.blk κ F w (if i=TRS then s.slot TRS else if i<avs.length then avs.getD i .undef else .undef) (us.toArray.getD i undef)
      split
      · rename_i e
        subst e
        have h1:=hr.slots TRS
        have h2:a.tmps.getD TRS undef=undef:=by
          have:=hr.tsz;have:=hr.nsz
          rw [Array.getD_eq_getD_getElem?,Array.getElem?_eq_none (by unfold TRS TMAX at *;omega)];rfl
        have h3:us.toArray.getD TRS undef=undef:=by
          rw [Array.getD_eq_getD_getElem?,Array.getElem?_eq_none (by simp only [List.size_toArray];unfold TRS TMAX at *;omega)];rfl
        rw [h2] at h1
        rw [h3]
        exact h1
      · split
        · rename_i hi
          simpa [Array.getD_eq_getD_getElem?,List.getD_eq_getElem?_getD] using hv i (by omega)
        · trivial
    blks:=hr.blks
    pro:=fun l A L n st e=>hr.pro l A L n st (by simpa [argSt] using e)
    pool:=PoolOk.slots (C:={ C with nt:=us.length,dfr:=[],r:=none }) (s:=s) hr.pool rfl fun l A L n st e=>by simpa [argSt] using e }
def ioC (C:Ctx) (w:World) (F':Nat→Prop) (n:Nat) (own Y:Nat→Prop) (an:(Nat→Option Nat)×(Nat→Option (KB×Nat))):Ctx:=
 { C with w0:=w,F0:=F',K0:=fun r=>r<w.heap.size∧¬own r∧¬Y r,nt:=n,dfr:=[],r:=none,an:=an.1,ana:=an.2 }
structure YPart (C:Ctx) (s:AState) (w:World) (κ:Nat→KB) (F:Nat→Prop) (sl:AV) (Y:Nat→Prop):Prop where
 pro:∀ l A L n st,sl=.tr l A L n st→(∃ I,C.pr=⟨l,A,L,I⟩)∧C.pr.Ok C.P∧C.pr.at A n st F Y w
 low:∀ r,Y r→r<w.heap.size∧¬F r∧¬C.K0 r
 own:∀ b,(s.blk b).body.owned (κ b)=true→¬Y (κ b).blk
 non:sl=.undef→∀ r,¬Y r
 pool:∀ r,PId s.blk r→¬Y r
theorem RelK.ypart (hr:RelK C s a w κ F) {sl:AV} (h:∀ l A L n st,sl=.tr l A L n st→s.slot TRS=.tr l A L n st):∃ Y,YPart C s w κ F sl Y:=by
 by_cases hs:∃ l A L n st,sl=.tr l A L n st
 ·obtain ⟨l,A,L,n,st,e⟩:=hs
  obtain ⟨h1,h2,Y,h3,h4,h5⟩:=hr.pro l A L n st (h _ _ _ _ _ e)
  refine ⟨Y,⟨fun l' A' L' n' st' e'=>?_,h3,h4,fun e'=>?_,fun r hp=>((hr.pool.pid hp).1 _ _ _ _ _ (h _ _ _ _ _ e)).elim⟩⟩
  ·rw [e] at e';cases e';exact ⟨h1,h2,h5⟩
  ·rw [e] at e';cases e'
 ·exact ⟨fun _=>False,⟨fun l A L n st e=>(hs ⟨l,A,L,n,st,e⟩).elim,fun _ h=>h.elim,fun _ _ h=>h,fun _ _ h=>h,fun _ _ h=>h⟩⟩
theorem io_enter {C1:Ctx} {s1:AState} {a1:Act} {F':Nat→Prop} {fl:List Nat} {f:Nat→Nat} {sh:Shape} {σ:sh.Den} {Y:Nat→Prop} {ids:List Nat} (hP:C1.P=C.P) (hft:C1.ft=C.ft) (hd0:C1.dfr=[])
  (hr1:RelK C1 (s1.frz fl) a1 w κ F') (hd:RdRes C1 s1 a1 w κ f F' sh σ fl) (hY:YPart C (s1.frz fl) w κ F' ((sh.st σ).slot TRS) Y)
  (hf:∀ b b',b∈sh.owns→b'∈sh.owns→f b=f b'→b=b') (hid:∀ b∈ids,TMAX≤b) (hfp:f POOLN=POOLN) :
  RelK (ioC C w F' C1.nt (fun r=>(∃ b,((sh.st σ).blk b).body.owned (κ (f b))=true∧(κ (f b)).blk=r)∨PId (sh.st σ).blk r) Y (fun b=>if b∈ids then some (κ (f b)).blk else none,fun b=>if b∈ids∧KEEPB≤b then some (κ (f b),((sh.st σ).blk b).body.len) else none)) (sh.st σ) a1 w (fun b=>κ (f b)) F' where
 tsz:=hr1.tsz
 dfr:=hr1.dfr.trans hd0
 slots:=fun i=>by have:=hd.slots i;rw [hP] at this;exact this
 blks:=fun b=>by have:=hd.blks b;rw [hP] at this;exact this
 own:=fun b hb=>by
  have h1:=hr1.own (f b) (hd.frzOwned hb)
  exact ⟨h1.1,h1.2.1,fun h=>h.2.1 (.inl ⟨b,hb,rfl⟩)⟩
 inj:=fun b b' hb hb' e=>hf b b' (hd.owned b hb).2.2 (hd.owned b' hb').2.2 (hr1.inj _ _ (hd.frzOwned hb) (hd.frzOwned hb') e)
 fsz:=hr1.fsz
 flo:=fun r hr=>.inl hr
 fhi:=fun r hr=>hr
 ksz:=fun r hr=>hr.1
 keep:=fun _ _=>rfl
 size:=Nat.le_refl _
 calm:=Calm.refl _
 nsz:=hr1.nsz
 aran:=fun b r h=>by
  simp only [ioC] at h
  split at h
  ·rename_i hb;exact hid b hb
  ·cases h
 anch:=fun b r h _=>by
  simp only [ioC] at h
  split at h
  ·cases h;rfl
  ·cases h
 ara:=fun b k h=>by
  simp only [ioC] at h
  split at h
  ·rename_i hb;exact hb.2
  ·cases h
 anA:=fun b k h _ _=>by
  simp only [ioC] at h
  split at h
  ·cases h;exact ⟨rfl,rfl⟩
  ·cases h
 pro:=fun l A L n st e=>by
  obtain ⟨h1,h2,h3⟩:=hY.pro l A L n st e
  exact ⟨h1,h2,Y,fun r hr=>⟨(hY.low r hr).1,(hY.low r hr).2.1,fun h=>h.2.2 hr⟩,fun b hb=>hY.own _ (hd.frzOwned hb),h3⟩
 pool:=fun e m hm=>by
  rcases hd.pool POOLN e m hm with k | rfl
  ·rw [hfp] at k
   have k':((s1.frz fl).blk POOLN).body=.pool e m:=by
    simp only [AState.frz]
    split
    ·simp [fz,k]
    ·exact k
   obtain ⟨p1,p2⟩:=hr1.pool e m k'
   refine ⟨p1,fun id xs hx=>?_⟩
   obtain ⟨q0,q1,q2,q3,q4,q5⟩:=p2 id xs hx
   refine ⟨fun l A L n st ht=>q0 l A L n st (hd.tr l A L n st ht),q1,q2,fun h=>h.2.1 (.inr ⟨e,m,xs,hm,hx⟩),fun b hb=>q4 _ (hd.frzOwned hb),?_⟩
   rw [hP] at q5;exact q5
  ·exact ⟨List.nodup_nil,fun id xs hx=>(by cases hx)⟩
 ftok:=by have:=hr1.ftok;rw [hP,hft] at this;exact this
 glob:=by have:=hr1.glob;rw [hP] at this;exact this
structure GList (s:AState) (κ:Nat→KB) (an:(Nat→Option Nat)×(Nat→Option (KB×Nat))) (bs:List (Nat×Body)) (G:List (Nat×(Nat×Nat))):Prop where
 n1:(G.map (·.1)).Nodup
 n2:(G.map (·.2.1)).Nodup
 dead:DEADB ∉ G.map (·.2.1)
 dd:(s.blk DEADB).body=.dead
 kind:∀ p∈G,(p.2.1<TMAX∧(s.blk p.2.1).gen<p.2.2)∨
  (((lookB bs p.1).body.isCells=true→(s.blk p.2.1).body.isCells=true∧an.1 p.1=some (κ p.2.1).blk)∧((lookB bs p.1).body.isMap=true→(s.blk p.2.1).body.isMap=true∧an.1 p.1=some (κ p.2.1).blk)∧(lookB bs p.1).body.isIt=false∧
   ((p.2.2=(s.blk p.2.1).gen∧((lookB bs p.1).body.isArr=true→(s.blk p.2.1).body.isArr=true∧(lookB bs p.1).body.esz=(s.blk p.2.1).body.esz∧an.2 p.1=some (κ p.2.1,(s.blk p.2.1).body.len)))∨p.2.2=(s.blk p.2.1).gen+1))
theorem io_leave {F' own Y:Nat→Prop} {sl:AV} {n:Nat} {an:(Nat→Option Nat)×(Nat→Option (KB×Nat))} {ins:List Nat} {out:Shape} {τ:out.Den} {vs:List Value} {w':World} {κ2:Nat→KB} {F2:Nat→Prop}
    (hr:RelK C s a w κ F') (hY:YPart C s w κ F' sl Y) (hown:∀ r,own r→(∃ b,b∈ins∧(s.blk b).body.owned (κ b)=true∧(κ b).blk=r)∨PId s.blk r)
    (hret:RelK { ioC C w F' n own Y an with nt:=vs.length } (out.st τ) { tmps:=vs.toArray,defers:=[] } w' κ2 F2)
    {G:List (Nat×(Nat×Nat))} (hG:GList s κ an (blksL (lookG G) out.blks (slotsL (lookG G) out.slots τ).2) G)
    (hpo:∀ r,own r→PId s.blk r→POOLN∈G.map (·.2.1)) (hpi:∀ p∈G,p.2.1=POOLN→(p.1=POOLN∧∀ l A L n st,s.slot TRS≠.tr l A L n st)∨(lookB (blksL (lookG G) out.blks (slotsL (lookG G) out.slots τ).2) p.1).body.isPool=false)
    (hpx:(s.blk POOLN).body.isPool=true→∀ l A L n st,look (slotsL (lookG G) out.slots τ).1 TRS≠.tr l A L n st)
    {H':Nat→ABlk} {κn:Nat→KB} (hH1:∀ p∈G,H' p.2.1=⟨p.2.2,(lookB (blksL (lookG G) out.blks (slotsL (lookG G) out.slots τ).2) p.1).body⟩∧κn p.2.1=κ2 p.1)
    (hH2:∀ b,b ∉ G.map (·.2.1)→κn b=κ b∧(b∈ins→H' b=⟨(s.blk b).gen+1,.dead⟩)∧(b ∉ ins→H' b=s.blk b))
    {X:AV} (hX:X=look (slotsL (lookG G) out.slots τ).1 TRS∨X=.undef∨(X=s.slot TRS∧sl=.undef)) :
    RelK C ⟨fun i=>if i=TRS then X else s.slot i,H'⟩ a w' κn F2∧
    ∀ i,RA C.P H' κn F2 w' (look (slotsL (lookG G) out.slots τ).1 i) (vs.toArray.getD i undef):=by
  generalize hbs:blksL (lookG G) out.blks (slotsL (lookG G) out.slots τ).2=bs at hG hH1 hpi
  have hsame:∀ b,SameB (lookB bs b).body ((out.st τ).blk b).body:=fun b=>by
    rw [←hbs,lookB_rest (slotsL_rest out.slots τ)]
    exact lookB_same out.blks (slotsL gId out.slots τ).2 b
  have hlk:Lk (out.st τ).blk H' κ2 κn (lookG G):=by
    intro b
    refine ⟨lookB_gen _ b,?_⟩
    by_cases hb:b∈G.map (·.1)
    · obtain ⟨p,hp,rfl⟩:=List.mem_map.1 hb
      rw [lookG_mem hG.n1 hp]
      obtain ⟨h1,h2⟩:=hH1 p hp
      rw [h1,h2]
      obtain ⟨k1,k2,k3,k4,k5,k6,_⟩:=hsame p.1
      exact ⟨Nat.le_refl _,fun _=>⟨fun h=>⟨k1 ▸ h,rfl⟩,fun h=>⟨k2 ▸ h,rfl,k3,k4⟩,fun h=>⟨k5 ▸ h,rfl⟩,fun h=>⟨k6 ▸ h,rfl⟩⟩⟩
    · rw [lookG_not hb]
      obtain ⟨_,h2,h3⟩:=hH2 DEADB hG.dead
      have hd:(H' DEADB).body=.dead:=by
        by_cases hi:DEADB∈ins
        · rw [h2 hi]
        · rw [h3 hi];exact hG.dd
      refine ⟨Nat.zero_le _,fun _=>?_⟩
      show ((H' DEADB).body.isCells=true→_)∧((H' DEADB).body.isArr=true→_)∧((H' DEADB).body.isMap=true→_)∧((H' DEADB).body.isIt=true→_)
      rw [hd]
      exact ⟨fun h=>(by cases h),fun h=>(by cases h),fun h=>(by cases h),fun h=>(by cases h)⟩
  have hcase:∀ b,(∃ p∈G,p.2.1=b)∨b ∉ G.map (·.2.1):=fun b=>by
    by_cases hb:b∈G.map (·.2.1)
    · obtain ⟨p,hp,e⟩:=List.mem_map.1 hb;exact .inl ⟨p,hp,e⟩
    · exact .inr hb
  have hanch:∀ p∈G,∀ r,an.1 p.1=some r→(lookB bs p.1).body.isCells=true∨(lookB bs p.1).body.isMap=true→(κ2 p.1).blk=r:=fun p hp r hr h=>by
    obtain ⟨k1,_,_,_,k5,_⟩:=hsame p.1
    exact hret.anch p.1 r hr (h.imp (fun h=>k1 ▸ h) (fun h=>k5 ▸ h))
  have hkept:∀ p∈G,∀ k,an.2 p.1=some k→(lookB bs p.1).body.isArr=true→κ2 p.1=k.1∧(lookB bs p.1).body.len=k.2:=fun p hp k hk h=>by
    obtain ⟨_,k2,k3,_⟩:=hsame p.1
    obtain ⟨h1,h2⟩:=hret.anA p.1 k hk (lookB_gen _ _) (k2 ▸ h)
    exact ⟨h1,k3.trans h2⟩
  have hl:Later s.blk κ H' κn:=by
    rw [later_iff]
    intro b
    rcases hcase b with ⟨p,hp,rfl⟩ | hb
    · obtain ⟨h1,h2⟩:=hH1 p hp
      rw [h1,h2]
      rcases hG.kind p hp with ⟨_,h⟩ | ⟨hc,hm,hit,h⟩
      · exact ⟨Nat.le_of_lt h,fun e=>(by have e:(s.blk p.2.1).gen=p.2.2:=e;omega)⟩
      · rcases h with ⟨h,harr⟩ | h
        · refine ⟨Nat.le_of_eq h.symm,fun _=>⟨fun h=>⟨(hc h).1,hanch p hp _ (hc h).2 (.inl h)⟩,fun h=>?_,fun h=>⟨(hm h).1,hanch p hp _ (hm h).2 (.inr h)⟩,fun h=>?_⟩⟩
          · have h:(lookB bs p.1).body.isArr=true:=h
            obtain ⟨a1,a2,a3⟩:=harr h
            obtain ⟨b1,b2⟩:=hkept p hp _ a3 h
            exact ⟨a1,b1,b2,a2⟩
          · have h:(lookB bs p.1).body.isIt=true:=h
            rw [hit] at h;cases h
        · exact ⟨by show _≤p.2.2;omega,fun e=>(by have e:(s.blk p.2.1).gen=p.2.2:=e;omega)⟩
    · obtain ⟨h1,h2,h3⟩:=hH2 b hb
      rw [h1]
      by_cases hi:b∈ins
      · rw [h2 hi]
        exact ⟨Nat.le_succ _,fun e=>(by have e:(s.blk b).gen=(s.blk b).gen+1:=e;omega)⟩
      · rw [h3 hi];exact Later1.refl _ _
  have hwsz:w.heap.size≤w'.heap.size:=hret.size
  have hF:∀ r,F' r→F2 r:=hret.fhi
  have hK:∀ r,r<w.heap.size→¬own r→¬Y r→w'.heap[r]?=w.heap[r]?:=fun r h1 h2 h3=>hret.keep r ⟨h1,h2,h3⟩
  have hK0:∀ r,C.K0 r→r<w.heap.size:=fun r h=>Nat.lt_of_lt_of_le (hr.ksz r h) hr.size
  have hoK:∀ r,own r→¬C.K0 r∧¬F' r:=fun r h=>by
    rcases hown r h with ⟨b,_,h1,rfl⟩ | hp
    · exact ⟨(hr.own b h1).2.2,(hr.own b h1).2.1⟩
    · exact ⟨(hr.pool.pid hp).2.2.2.1,(hr.pool.pid hp).2.2.1⟩
  have hnK:∀ r,¬(r<w.heap.size∧¬own r∧¬Y r)→¬C.K0 r:=fun r h hk=>h ⟨hK0 r hk,fun ho=>(hoK r ho).1 hk,fun hy=>(hY.low r hy).2.2 hk⟩
  have hext:Ext F' w w':=⟨hwsz,fun r h=>hK r (hr.fsz r h) (fun ho=>(hoK r ho).2 h) fun hy=>(hY.low r hy).2.1 h⟩
  have hF2:∀ r,F2 r→F' r∨¬(r<w.heap.size∧¬own r∧¬Y r):=hret.flo
  have hrest:∀ b,b ∉ ins→(s.blk b).body.owned (κ b)=true→(κ b).blk<w.heap.size∧¬own (κ b).blk∧¬Y (κ b).blk:=fun b hb ho=>by
    refine ⟨(hr.own b ho).1,fun h=>?_,hY.own b ho⟩
    rcases hown _ h with ⟨b',h1,h2,h3⟩ | hp
    · exact hb (hr.inj b' b h2 ho h3 ▸ h1)
    · exact (hr.pool.pid hp).2.2.2.2 b ho rfl
  have hown':∀ b,(H' b).body.owned (κn b)=true→(∃ p∈G,p.2.1=b∧((out.st τ).blk p.1).body.owned (κ2 p.1)=true∧κn b=κ2 p.1)∨(b ∉ G.map (·.2.1)∧b ∉ ins∧κn b=κ b∧(s.blk b).body.owned (κ b)=true):=fun b hb=>by
    rcases hcase b with ⟨p,hp,rfl⟩ | hn
    · obtain ⟨h1,h2⟩:=hH1 p hp
      rw [h1,h2] at hb
      exact .inl ⟨p,hp,rfl,by rw [←(hsame p.1).2.2.2.2.2.2];exact hb,h2⟩
    · obtain ⟨h1,h2,h3⟩:=hH2 b hn
      by_cases hi:b∈ins
      · rw [h2 hi] at hb;cases hb
      · rw [h3 hi,h1] at hb
        exact .inr ⟨hn,hi,h1,hb⟩
  have hsl:∀ i,RA C.P H' κn F2 w' (look (slotsL (lookG G) out.slots τ).1 i) (vs.toArray.getD i undef):=fun i=>hlk.slots out.slots τ i (hret.slots i)
  refine ⟨{ tsz := hr.tsz, dfr := hr.dfr, slots := fun i => ?_, blks := fun b => ?_, own := fun b hb => ?_, inj := fun b b' hb hb' e => ?_, fsz := hret.fsz, flo := fun r h => ?_, fhi := fun r h => hF r (hr.fhi r h), ksz := hr.ksz, keep := fun r h => ?_,
            size:=Nat.le_trans hr.size hwsz,calm:=hr.calm.trans hret.calm,nsz:=hr.nsz,aran:=hr.aran,anch:=fun b r h hc=>?_,ara:=hr.ara,anA:=fun b k h h0 ha=>?_,pro:=fun l A L m st e=>?_,pool:=fun e m hm=>?_,ftok:=hr.ftok,glob:=hret.glob },hsl⟩
  · show RA C.P H' κn F2 w' (if i=TRS then X else s.slot i) _
    split
    · rename_i e
      subst e
      have hu:a.tmps.getD TRS undef=undef:=by
        have:=hr.tsz;have:=hr.nsz
        rw [Array.getD_eq_getD_getElem?,Array.getElem?_eq_none (by unfold TRS TMAX at *;omega)];rfl
      rcases hX with rfl | rfl | ⟨rfl,_⟩
      · have h:=hsl TRS
        have hu2:vs.toArray.getD TRS undef=undef:=by
          have:vs.length≤TMAX:=hret.nsz
          rw [Array.getD_eq_getD_getElem?,Array.getElem?_eq_none (by simp only [List.size_toArray];unfold TRS TMAX at *;omega)];rfl
        rw [hu2] at h;rw [hu];exact h
      · trivial
      · exact RA.later hl hF hext (hr.slots TRS)
    · exact RA.later hl hF hext (hr.slots i)
  · show HBody C.P H' κn F2 w' (κn b) (H' b).body
    rcases hcase b with ⟨p,hp,rfl⟩ | hn
    · obtain ⟨h1,h2⟩:=hH1 p hp
      rw [h1,h2,←hbs,lookB_rest (slotsL_rest out.slots τ)]
      exact hlk.blks out.blks (slotsL gId out.slots τ).2 p.1 (hret.blks p.1)
    · obtain ⟨h1,h2,h3⟩:=hH2 b hn
      by_cases hi:b∈ins
      · rw [h2 hi];trivial
      · have:=HB.other (H':=H') (κ':=κn) (hr.blks b) hl hF hext (by rw [h3 hi]) h1 fun ho=>hK _ (hrest b hi ho).1 (hrest b hi ho).2.1 (hrest b hi ho).2.2
        exact this
  · rcases hown' b hb with ⟨p,hp,_,h1,h2⟩ | ⟨_,h1,h2,h3⟩
    · have:=hret.own p.1 h1
      rw [h2]
      exact ⟨this.1,this.2.1,hnK _ this.2.2⟩
    · rw [h2]
      have h4:=hr.own b h3
      exact ⟨Nat.lt_of_lt_of_le h4.1 hwsz,fun h=>(hF2 _ h).elim h4.2.1 fun h=>h (hrest b h1 h3),h4.2.2⟩
  · rcases hown' b hb with ⟨p,hp,rfl,h1,h2⟩ | ⟨_,h1,h2,h3⟩<;>rcases hown' b' hb' with ⟨p',hp',rfl,h1',h2'⟩ | ⟨_,h1',h2',h3'⟩
    · rw [h2,h2'] at e
      have:=hret.inj _ _ h1 h1' e
      rw [key_inj hG.n1 hp hp' this]
    · rw [h2,h2'] at e
      exact ((hret.own p.1 h1).2.2 (e ▸ hrest b' h1' h3')).elim
    · rw [h2,h2'] at e
      exact ((hret.own p'.1 h1').2.2 (e ▸ hrest b h1 h3)).elim
    · rw [h2,h2'] at e
      exact hr.inj b b' h3 h3' e
  · rcases hF2 r h with h | h
    · exact hr.flo r h
    · exact .inr (hnK r h)
  · exact (hK r (hK0 r h) (fun ho=>(hoK r ho).1 h) fun hy=>(hY.low r hy).2.2 h).trans (hr.keep r h)
  · have ht:=hr.aran b r h
    rcases hcase b with ⟨p,hp,rfl⟩ | hn
    · obtain ⟨h1,h2⟩:=hH1 p hp
      simp only [h1] at hc
      rcases hG.kind p hp with ⟨h3,_⟩ | ⟨k1,k2,_⟩
      · omega
      · rw [h2]
        rcases hc with hc | hc
        · rw [hanch p hp _ (k1 hc).2 (.inl hc)]
          exact hr.anch _ r h (.inl (k1 hc).1)
        · rw [hanch p hp _ (k2 hc).2 (.inr hc)]
          exact hr.anch _ r h (.inr (k2 hc).1)
    · obtain ⟨h1,h2,h3⟩:=hH2 b hn
      by_cases hi:b∈ins
      · simp only [h2 hi] at hc
        rcases hc with hc | hc<;>cases hc
      · simp only [h3 hi] at hc
        rw [h1]
        exact hr.anch b r h hc
  · have ht:=hr.ara b k h
    have h0:(H' b).gen=0:=h0
    have ha:(H' b).body.isArr=true:=ha
    show κn b=k.1∧(H' b).body.len=k.2
    obtain ⟨g1,g2⟩:=hl b
    obtain ⟨a1,a2,a3,_⟩:=(g2 (by omega)).2.1 ha
    obtain ⟨k1,k2⟩:=hr.anA b k h (by omega) a1
    exact ⟨a2.trans k1,a3.trans k2⟩
  · have e:X=.tr l A L m st:=by simpa using e
    rcases hX with rfl | rfl | ⟨rfl,hsl0⟩
    · obtain ⟨h1,h2,Y',h3,h4,h5⟩:=hret.pro l A L m st (slots_tr out.slots τ TRS e)
      refine ⟨h1,h2,Y',fun r hr'=>⟨(h3 r hr').1,(h3 r hr').2.1,hnK r (h3 r hr').2.2⟩,fun b hb hy=>?_,h5⟩
      rcases hown' b hb with ⟨p,hp,rfl,k1,k2⟩ | ⟨_,k1,k2,k3⟩
      · rw [k2] at hy;exact h4 _ k1 hy
      · rw [k2] at hy;exact (h3 _ hy).2.2 (hrest b k1 k3)
    · cases e
    · obtain ⟨h1,h2,Y',h3,h4,h5⟩:=hr.pro l A L m st e
      have hYY:∀ r,Y' r→r<w.heap.size∧¬own r∧¬Y r:=fun r hy=>⟨(h3 r hy).1,fun ho=>by
        rcases hown r ho with ⟨b,_,k1,rfl⟩ | hp
        · exact h4 b k1 hy
        · exact (hr.pool.pid hp).1 _ _ _ _ _ e,hY.non hsl0 r⟩
      have hYF:∀ r,F2 r→¬Y' r:=fun r hf hy=>(hF2 r hf).elim (h3 r hy).2.1 fun h=>h (hYY r hy)
      refine ⟨h1,h2,Y',fun r hy=>⟨Nat.lt_of_lt_of_le (h3 r hy).1 hwsz,fun hf=>hYF r hf hy,(h3 r hy).2.2⟩,fun b hb hy=>?_,h2.stabAt h5 hF (fun r hf=>?_) hwsz hret.calm hret.fsz hYF⟩
      · rcases hown' b hb with ⟨p,hp,rfl,k1,k2⟩ | ⟨_,k1,k2,k3⟩
        · rw [k2] at hy;exact (hret.own _ k1).2.2 (hYY _ hy)
        · rw [k2] at hy;exact h4 b k3 hy
      · rcases hf with hf | hf
        · exact hext.2 r hf
        · obtain ⟨k1,k2,k3⟩:=hYY r hf
          exact hK r k1 k2 k3
  · have hmm:(H' POOLN).body=.pool e m:=hm
    rcases hcase POOLN with ⟨p,hp,hpe⟩ | hn
    · obtain ⟨h1,h2⟩:=hH1 p hp
      rw [hpe] at h1
      rw [h1] at hmm
      have hmm:(lookB bs p.1).body=.pool e m:=hmm
      rcases hpi p hp hpe with ⟨hp1,htr⟩ | hno
      · have hm2:((out.st τ).blk p.1).body=.pool e m:=by
          rw [←hbs,lookB_rest (slotsL_rest out.slots τ)] at hmm
          exact lookB_pool out.blks _ p.1 hmm
        rw [hp1] at hm2
        obtain ⟨p1,p2⟩:=hret.pool e m hm2
        refine ⟨p1,fun id xs hx=>?_⟩
        obtain ⟨q0,q1,q2,q3,q4,q5⟩:=p2 id xs hx
        refine ⟨fun l A L n st ht=>?_,q1,q2,hnK _ q3,fun b hb e'=>?_,q5⟩
        · have ht:X=.tr l A L n st:=by simpa using ht
          rcases hX with rfl | rfl | ⟨rfl,_⟩
          · exact q0 _ _ _ _ _ (slots_tr out.slots τ TRS ht)
          · cases ht
          · exact htr _ _ _ _ _ ht
        · rcases hown' b hb with ⟨p',hp',rfl,k1,k2⟩ | ⟨_,k1,k2,k3⟩
          · rw [k2] at e';exact q4 _ k1 e'
          · rw [k2] at e';exact q3 (e' ▸ hrest b k1 k3)
      · rw [hmm] at hno;cases hno
    · obtain ⟨h1,h2,h3⟩:=hH2 POOLN hn
      by_cases hi:POOLN∈ins
      · rw [h2 hi] at hmm;cases hmm
      · rw [h3 hi] at hmm
        obtain ⟨p1,p2⟩:=hr.pool e m hmm
        refine ⟨p1,fun id xs hx=>?_⟩
        obtain ⟨q0,q1,q2,q3,q4,q5⟩:=p2 id xs hx
        have hpid:PId s.blk id:=⟨e,m,xs,hmm,hx⟩
        have hno:¬own id:=fun ho=>hn (hpo id ho hpid)
        have hny:=hY.pool id hpid
        refine ⟨fun l A L n st ht=>?_,Nat.lt_of_lt_of_le q1 hwsz,fun hf=>(hF2 _ hf).elim q2 fun h=>h ⟨q1,hno,hny⟩,q3,fun b hb e'=>?_,q5.mono hF hext (hK id q1 hno hny)⟩
        · have ht:X=.tr l A L n st:=by simpa using ht
          rcases hX with rfl | rfl | ⟨rfl,_⟩
          · exact hpx (by rw [hmm];rfl) _ _ _ _ _ ht
          · cases ht
          · exact q0 _ _ _ _ _ ht
        · rcases hown' b hb with ⟨p',hp',rfl,k1,k2⟩ | ⟨_,k1,k2,k3⟩
          · rw [k2] at e';exact (hret.own _ k1).2.2 (e' ▸ ⟨q1,hno,hny⟩)
          · rw [k2] at e';exact q4 b k3 e'
end
end Go.Fer
namespace Go.Fer
open Go.RowKit
section
variable {C:Ctx} {T:Nat→Ty} {o:Oper} {s:AState}
theorem IoSpec.go {P:Program} {U:FnTab} {k:FuncId} {c:IOC} (hf:IoSpec P U k c) {C:Ctx} {a:Act} {w:World} {κ:Nat→KB} {F:Nat→Prop} {σ:c.sin.Den} (h:RelK C (c.sin.st σ) a w κ F) (h1:C.P=P) (h2:C.w0=w) (h3:C.r=none) (h4:C.dfr=[]) (h5:C.nt=c.nargs) (h6:C.ft=U) (hs:(c.sh σ).safe) :
  Calls P k a.tmps w fun e w'=>∃ v τ vs κ' F',e=.returned v∧(c.sh σ).out τ∧GrpVal c.grp v vs∧RelK { C with nt:=vs.length } (c.out.st τ) { tmps:=vs.toArray,defers:=[] } w' κ' F':=
 hf.calls C a w κ F σ h1 h2 h3 h4 h5 h6 h hs
theorem io_core {C:Ctx} {s:AState} {sl1:Nat→AV} {a a1:Act} {w:World} {κ:Nat→KB} {F:Nat→Prop} {n1:Nat} {c:IOC} {f:Nat→Nat} {σ:c.sin.Den} {fl:List Nat} {d m:Nat} {G:List (Nat×(Nat×Nat))}
    (hr:RelK C s a w κ F) (hr1:RelK { C with nt:=n1,dfr:=[],r:=none } ⟨sl1,s.blk⟩ a1 w κ F) (hslot:sl1 TRS=s.slot TRS)
    (hσ:c.sin.rdF f ⟨sl1,s.blk⟩=some (σ,fl)) (hGd:outG (s.frz fl) d f c.sin.owns c.out.blks 0=G) (hck:ioOk c f (s.frz fl) G d m=true) :
    ∃ (F' own Y:Nat→Prop) (an:(Nat→Option Nat)×(Nat→Option (KB×Nat))),(∀ r,F r→F' r)∧RelK C (s.frz fl) a w κ F'∧(∀ r,own r→(∃ b,((s.frz fl).blk b).body.owned (κ b)=true∧(κ b).blk=r)∨PId (s.frz fl).blk r)∧YPart C (s.frz fl) w κ F' ((c.sin.st σ).slot TRS) Y∧(∀ l A L n st,(c.sin.st σ).slot TRS=.tr l A L n st→s.slot TRS=.tr l A L n st)∧
      RelK (ioC C w F' n1 own Y an) (c.sin.st σ) a1 w (fun b=>κ (f b)) F'∧
      ∀ w0b wb,RelK { C with w0:=w0b } (s.frz fl) a wb κ F'→YPart C (s.frz fl) wb κ F' ((c.sin.st σ).slot TRS) Y→∀ (τ:c.out.Den) (vs:List Value) (w':World) (κ2:Nat→KB) (F2:Nat→Prop),
        RelK { ioC C wb F' n1 own Y an with nt:=vs.length } (c.out.st τ) { tmps:=vs.toArray,defers:=[] } w' κ2 F2→
        ∃ κn,RelK { C with w0:=w0b } (ioSt0 (s.frz fl) c f G τ) a w' κn F2∧∀ i,RA C.P (ioSt0 (s.frz fl) c f G τ).blk κn F2 w' (look (slotsL (lookG G) c.out.slots τ).1 i) (vs.toArray.getD i undef):=by
  simp only [ioOk,Bool.and_eq_true,decide_eq_true_eq,Bool.not_eq_true'] at hck
  obtain ⟨⟨⟨⟨⟨⟨⟨⟨⟨⟨⟨c1,c2⟩,c3⟩,c4⟩,c5⟩,c6⟩,c7⟩,c8⟩,c9⟩,c10⟩,_⟩,c11,c12,c13⟩:=hck
  have c3:(c.sin.blks.map (·.1)).Nodup:=of_decide_eq_true c3
  have c4:(c.sin.blks.map fun p=>f p.1).Nodup:=of_decide_eq_true c4
  have c5:(G.map (·.1)).Nodup:=of_decide_eq_true c5
  have c6:(G.map (·.2.1)).Nodup:=of_decide_eq_true c6
  have c8:DEADB ∉ G.map (·.2.1):=fun h=>by
    rw [List.contains_iff_mem.2 h] at c8;cases c8
  have c9:((s.frz fl).blk DEADB).body=.dead:=by
    split at c9
    · rename_i e;exact e
    · cases c9
  obtain ⟨F',f1,hr1,hd⟩:=Shape.rdF_ok hσ hr1
  have hr' : RelK C (s.frz fl) a w κ F' := { hr1 with
    tsz:=hr.tsz,dfr:=hr.dfr,nsz:=hr.nsz,slots:=fun i=>RA.later (later_frz s fl κ) f1 (Ext.refl _ _) (hr.slots i)
    blks:=hr1.blks
    pro:=fun l A L n st e=>hr1.pro l A L n st (by simpa [AState.frz,hslot] using e)
    pool:=PoolOk.slots (C:={ C with nt:=n1,dfr:=[],r:=none }) hr1.pool rfl fun l A L n st e=>by simpa [AState.frz,hslot] using e }
  obtain ⟨Y,hY⟩:=hr'.ypart (sl:=(c.sin.st σ).slot TRS) fun l A L n st e=>by simpa [AState.frz,hslot] using hd.tr l A L n st e
  have hid:∀ b∈c.sin.blks.map (·.1),TMAX≤b:=fun b hb=>by simpa using List.all_eq_true.1 c7 b hb
  have howns:∀ b,b∈c.sin.owns→∃ q∈c.sin.blks,q.1=b∧q.2.isOwn=true:=fun b hb=>by
    obtain ⟨q,hq,e⟩:=List.mem_filterMap.1 hb
    split at e
    · cases e;exact ⟨q,hq,rfl,by assumption⟩
    · cases e
  have hcal:=io_enter (C:=C) (C1:={ C with nt:=n1,dfr:=[],r:=none }) (ids:=c.sin.blks.map (·.1)) rfl rfl rfl hr1 hd ⟨hY.pro,hY.low,hY.own,hY.non,hY.pool⟩ (fun b b' hb hb' e=>by
    obtain ⟨q,hq,rfl,_⟩:=howns b hb
    obtain ⟨q',hq',rfl,_⟩:=howns b' hb'
    rw [key_inj (k:=fun p=>f p.1) c4 hq hq' e]) hid c12
  have hpsrc:∀ r,PId (c.sin.st σ).blk r→PId (s.frz fl).blk r:=fun r ⟨e,m,xs,h1,h2⟩=>by
    rcases hd.pool POOLN e m h1 with k | rfl
    · rw [c12] at k
      have k':((s.frz fl).blk POOLN).body=.pool e m:=by
        simp only [AState.frz]
        have k:(s.blk POOLN).body=.pool e m:=k
        split
        · simp [fz,k]
        · exact k
      exact ⟨e,m,xs,k',h2⟩
    · cases h2
  refine ⟨F',_,Y,_,f1,hr',fun r h=>h.imp (fun ⟨b,hb,e⟩=>⟨f b,hd.frzOwned hb,e⟩) (hpsrc r),hY,fun l A L n st e=>by simpa [AState.frz,hslot] using hd.tr l A L n st e,hcal,fun w0b wb hrb hYb τ vs w' κ2 F2 hret=>?_⟩
  have hbs:∀ (b:Nat) (q':Nat×TB),q'∈c.out.blks→q'.1=b→b∈c.sin.owns→∀ (R:Type) (z:q'.2.cons R),
      ((q'.2.body (lookG G) z).1.isCells=true→((s.frz fl).blk (f b)).body.isCells=true)∧((q'.2.body (lookG G) z).1.isMap=true→((s.frz fl).blk (f b)).body.isMap=true)∧(q'.2.body (lookG G) z).1.isIt=false:=by
    intro b q' hq' e hb R z
    obtain ⟨q,hq,rfl,hqo⟩:=howns b hb
    have hk:=List.all_eq_true.1 (List.all_eq_true.1 c10 q' hq') q hq
    rw [e,hqo] at hk
    simp only [beq_self_eq_true,Bool.and_self,Bool.not_true,Bool.false_or] at hk
    rcases lookB_cases gId c.sin.blks (slotsL gId c.sin.slots σ).2 q.1 with ⟨_,h2⟩ | ⟨q2,h2,h3,R',z',h4⟩
    · exact (h2 (List.mem_map_of_mem hq)).elim
    · obtain rfl:=key_inj c3 h2 hq h3
      have h4:(c.sin.st σ).blk q2.1=⟨0,(q2.2.body gId z').1⟩:=h4
      obtain ⟨k1,k2,k3⟩:=kin_body hk z z' (g:=lookG G) (g':=gId)
      have hreg:=hd.reg q2.1
      refine ⟨fun hc=>?_,fun hc=>?_,k3⟩
      · have h5:=hd.owned q2.1 (by rw [h4];exact (k1 hc).2 _)
        simp only [AState.frz,if_neg h5.1]
        exact hreg.2.1 (by rw [h4];exact (k1 hc).1)
      · have h5:=hd.owned q2.1 (by rw [h4];exact (k2 hc).2 _)
        simp only [AState.frz,if_neg h5.1]
        exact hreg.2.2.2.1 (by rw [h4];exact (k2 hc).1)
  have hGids:G.map (·.1)=c.out.blks.map (·.1):=by rw [←hGd];exact outG_ids ..
  have hG:GList (s.frz fl) κ (fun b=>if b∈c.sin.blks.map (·.1) then some (κ (f b)).blk else none,fun b=>if b∈c.sin.blks.map (·.1)∧KEEPB≤b then some (κ (f b),((c.sin.st σ).blk b).body.len) else none) (blksL (lookG G) c.out.blks (slotsL (lookG G) c.out.slots τ).2) G:=by
    refine ⟨c5,c6,c8,c9,fun p hp=>?_⟩
    rw [←hGd] at hp
    rcases outG_mem _ _ _ _ _ _ hp with ⟨h1,h2,t,h3,h4⟩ | ⟨_,h2,h3,h4⟩ | ⟨h1,e,h2⟩
    · rw [h2]
      have hmem:p.1∈c.sin.blks.map (·.1):=by
        obtain ⟨q,hq,e,_⟩:=howns _ h1
        exact e ▸ List.mem_map_of_mem hq
      rcases lookB_cases (lookG G) c.out.blks (slotsL (lookG G) c.out.slots τ).2 p.1 with ⟨_,k2⟩ | ⟨q',k1,k2,R,z,k3⟩
      · exact (k2 (List.mem_map_of_mem (f:=(·.1)) h3)).elim
      · rw [k3]
        obtain ⟨b1,b2,b3⟩:=hbs p.1 q' k1 k2 h1 R z
        have:q'=(p.1,t):=key_inj (hGids ▸ c5) k1 h3 k2
        subst this
        refine .inr ⟨fun h=>⟨b1 h,if_pos hmem⟩,fun h=>⟨b2 h,if_pos hmem⟩,b3,h4.imp (fun h4=>⟨h4.1,fun harr=>?_⟩) id⟩
        rcases h4.2 with h5 | ⟨hk,e,rfl⟩
        · have:=h5 (lookG G) R z
          have harr:(t.body (lookG G) z).1.isArr=true:=harr
          rw [this] at harr;cases harr
        · obtain ⟨q,hq,hqe,hqo⟩:=howns p.1 h1
          have hkin:=List.all_eq_true.1 (List.all_eq_true.1 c10 _ k1) q hq
          rw [hqe,hqo] at hkin
          simp only [beq_self_eq_true,Bool.and_self,Bool.not_true,Bool.false_or] at hkin
          rcases lookB_cases gId c.sin.blks (slotsL gId c.sin.slots σ).2 p.1 with ⟨_,h2'⟩ | ⟨q2,m2,m3,R',z',m4⟩
          · exact (h2' (hqe ▸ List.mem_map_of_mem hq)).elim
          · obtain rfl:=key_inj c3 m2 hq (m3.trans hqe.symm)
            have m4:(c.sin.st σ).blk p.1=⟨0,(q2.2.body gId z').1⟩:=m4
            obtain ⟨q1,qt⟩:=q2
            have hkin:TB.kin (.arr e) qt=true:=hkin
            obtain rfl:qt=.arr e:=by
              cases qt<;>first | (simp only [TB.kin,decide_eq_true_eq] at hkin;rw [hkin]) | cases hkin
            have hreg:=hd.reg p.1
            have harr':((c.sin.st σ).blk p.1).body.isArr=true:=by rw [m4];rfl
            obtain ⟨r1,r2,r3⟩:=hreg.2.2.1 harr'
            have hz:((s.frz fl).blk (f p.1)).body.isArr=true∧((s.frz fl).blk (f p.1)).body.len=(s.blk (f p.1)).body.len∧((s.frz fl).blk (f p.1)).body.esz=(s.blk (f p.1)).body.esz:=by
              simp only [AState.frz]
              split
              · rcases fz_cases s.blk (s.blk (f p.1)) with e' | ⟨_,_,hx,e'⟩ | ⟨_,_,_,hx,_⟩ | ⟨_,_,_,_,hx,_,_⟩
                · rw [e'];exact ⟨r1,rfl,rfl⟩
                · rw [e',hx];exact ⟨rfl,rfl,rfl⟩
                · have r1:(s.blk (f p.1)).body.isArr=true:=r1
                  rw [hx] at r1;cases r1
                · have r1:(s.blk (f p.1)).body.isArr=true:=r1
                  rw [hx] at r1;cases r1
              · exact ⟨r1,rfl,rfl⟩
            have r2:((c.sin.st σ).blk p.1).body.len=(s.blk (f p.1)).body.len:=r2
            have r3:((c.sin.st σ).blk p.1).body.esz=(s.blk (f p.1)).body.esz:=r3
            refine ⟨hz.1,?_,?_⟩
            · rw [hz.2.2,←r3,m4];rfl
            · rw [hz.2.1,←r2]
              exact if_pos ⟨hmem,hk⟩
    · refine .inl ⟨?_,by rw [h2];exact Nat.lt_succ_self _⟩
      unfold TMAX
      omega
    · have hpb:=poolB (lookG G) c.out.blks (slotsL (lookG G) c.out.slots τ).2 (hGids ▸ c5) h2
      refine .inr ?_
      rcases hpb with ⟨m',hpb⟩
      rw [hpb,h1]
      exact ⟨fun h=>(by cases h),fun h=>(by cases h),rfl,.inl ⟨rfl,fun h=>(by cases h)⟩⟩
  simp only [poolChk,Bool.and_eq_true,Bool.or_eq_true,Bool.not_eq_true',List.all_eq_true,decide_eq_true_eq] at c11
  obtain ⟨⟨c11,c14⟩,c15⟩:=c11
  have hGp:∀ q∈c.out.blks,q.2.isPool=true→POOLN∈G.map (·.2.1):=fun q hq hqp=>by
    rw [←hGd];exact outG_pool _ _ _ _ _ _ hq hqp
  have hpo:∀ r,(∃ b,((c.sin.st σ).blk b).body.owned (κ (f b))=true∧(κ (f b)).blk=r)∨PId (c.sin.st σ).blk r→PId (s.frz fl).blk r→POOLN∈G.map (·.2.1):=fun r h hp=>by
    rcases h with ⟨b,hb,e⟩ | ⟨e,m,xs,h1,h2⟩
    · exact ((hr'.pool.pid hp).2.2.2.2 (f b) (hd.frzOwned hb) e).elim
    · rcases lookB_cases gId c.sin.blks (slotsL gId c.sin.slots σ).2 POOLN with ⟨k,_⟩ | ⟨q,k1,k2,R,z,k3⟩
      · have k:(c.sin.st σ).blk POOLN=_:=k
        rw [k] at h1;cases h1
      · have k3:(c.sin.st σ).blk POOLN=_:=k3
        rw [k3] at h1
        have hqp:q.2.isPool=true:=by
          obtain ⟨q1,q2⟩:=q
          cases q2<;>first | rfl | cases h1
        rcases c14 with c14 | c14
        · have:=List.any_eq_false.1 c14 q k1
          rw [hqp] at this;exact (this rfl).elim
        · obtain ⟨q',hq',hqp'⟩:=List.any_eq_true.1 c14
          exact hGp q' hq' hqp'
  have hpi:∀ p∈G,p.2.1=POOLN→(p.1=POOLN∧∀ l A L n st,(s.frz fl).slot TRS≠.tr l A L n st)∨(lookB (blksL (lookG G) c.out.blks (slotsL (lookG G) c.out.slots τ).2) p.1).body.isPool=false:=fun p hp hpe=>by
    by_cases hq:∃ e,(p.1,TB.pool e)∈c.out.blks
    · obtain ⟨e,hq⟩:=hq
      refine .inl ⟨?_,fun l A L n st ht=>?_⟩
      · rcases c11 _ (List.mem_append_right _ hq) with k | k
        · cases k
        · exact k
      · rcases c15 with k | k
        · have:=List.any_eq_false.1 k _ hq
          exact (this rfl).elim
        · rw [ht] at k;cases k
    · refine .inr ?_
      rcases lookB_cases (lookG G) c.out.blks (slotsL (lookG G) c.out.slots τ).2 p.1 with ⟨k,_⟩ | ⟨q',k1,k2,R,z,k3⟩
      · rw [k];rfl
      · rw [k3]
        obtain ⟨q1,q2⟩:=q'
        cases q2 with
        | pool e=>exact (hq ⟨e,by rw [←k2];exact k1⟩).elim
        | _=>rfl
  have hpx:((s.frz fl).blk POOLN).body.isPool=true→∀ l A L n st,look (slotsL (lookG G) c.out.slots τ).1 TRS≠.tr l A L n st:=fun h l A L n st ht=>by
    rcases (by simpa only [Bool.or_eq_true,Bool.not_eq_true'] using c13:_∨_) with k | k
    · rw [h] at k;cases k
    · rw [look_none c.out.slots (lookG G) τ TRS k] at ht;cases ht
  obtain ⟨hfin,hsl⟩:=io_leave (ins:=c.sin.owns.map f) (X:=if c.out.slots.any (fun p=>p.1 == TRS) then look (slotsL (lookG G) c.out.slots τ).1 TRS else if c.sin.slots.any (fun p=>p.1 == TRS) then .undef else (s.frz fl).slot TRS)
    (H':=(ioSt0 (s.frz fl) c f G τ).blk)
    (κn:=fun b=>match G.find? (fun p=>p.2.1 == b) with
      | some p=>κ2 p.1
      | none=>κ b) hrb ⟨hYb.pro,hYb.low,hYb.own,hYb.non,hYb.pool⟩ (fun r h=>h.imp (fun ⟨b,hb,e⟩=>⟨f b,List.mem_map_of_mem (hd.owned b hb).2.2,hd.frzOwned hb,e⟩) (hpsrc r)) hret hG hpo hpi hpx
    (fun p hp=>by simp only [ioSt0,find_key (k:=fun p=>p.2.1) c6 hp,and_self]) (fun b hb=>by
      have hn:G.find? (fun p=>p.2.1 == b)=none:=List.find?_eq_none.2 fun p hp e=>hb (List.mem_map.2 ⟨p,hp,by simpa using e⟩)
      simp only [ioSt0,hn,true_and]
      exact ⟨fun hi=>by rw [if_pos (List.contains_iff_mem.2 hi)],fun hi=>by rw [if_neg (by simpa using hi)]⟩)
    (by
      split
      · exact .inl rfl
      · split
        · exact .inr (.inl rfl)
        · rename_i h2
          exact .inr (.inr ⟨rfl,look_none c.sin.slots gId σ TRS (Bool.eq_false_iff.2 h2)⟩))
  exact ⟨_,hfin,hsl⟩
theorem ioG_ok (hdst:∀ i,o.dst=some i→i<C.nt) (hdf:∀ c,o.op≠.defer c) {k:Nat} {avs:List AV} {ob:Prop} {n:Nat} {c:IOC} (hf:IoSpec C.P C.ft k c) {pr:PRes} (h:ioG s o c avs ob n=some pr)
  (hv:∀ a w κ F,RelK C s a w κ F→ob→∃ us:List Value,us.length=n∧avs.length=n∧(∀ i,i<n→RA C.P s.blk κ F w (avs.getD i .undef) (us.getD i undef))∧(execOp a.eval o).run C.P w=.ok (.enter k us.toArray) w)
  (hfree:UseOk (opAV C.ft s.slot) o→ob):PrOk C o s pr:=by
 unfold ioG at h
 generalize hfd:ioF c (argSt s avs)=f at h
 split at h
 ·rename_i σ fl hσ
  split at h
  ·rename_i hck
   cases h
   refine ⟨fun a w Q K hr hob hmret=>?_,fun gs hgs=>(by cases hgs),hfree⟩
   obtain ⟨κ,F,hr⟩:=hr
   have hlen:n=c.nargs∧n≤TMAX:=by
    simp only [ioOk,Bool.and_eq_true,decide_eq_true_eq] at hck
    exact hck.1.2
   obtain ⟨us,hu1,hu2,hu3,hrun⟩:=hv a w κ F hr hob
   have hargs:=hr.args (avs:=avs) (us:=us) (by omega) (by omega) fun i hi=>hu3 i (by omega)
   obtain ⟨F',own,Y,an,_,hr',_,hY,_,hcal,hlv⟩:=io_core hr hargs rfl hσ rfl hck
   have hcc:=hf.go hcal rfl rfl rfl rfl (by show us.length=_;omega) rfl hmret.1
   refine oper_call hdf hrun hcc fun e w' ⟨v,τ,vs,κ2,F2,he,hτ,hgv,hret⟩=>⟨v,he,hmret.2 τ hτ _ _ ?_⟩
   obtain ⟨κn,hfin,hsl⟩:=hlv C.w0 w hr' hY τ vs w' κ2 F2 hret
   exact ⟨_,F2,RelK.set hfin hdst (grpVal_ok hgv fun j=>by simpa [Array.getD_eq_getD_getElem?,List.getD_eq_getElem?_getD] using hsl j)⟩
  ·cases h
 ·cases h
theorem ioAvs_ok {a:Act} {w:World} {κ:Nat→KB} {F:Nat→Prop} (hr:RelK C s a w κ F) {args:List Operand} (hob:usesObL (args.map (opAV C.ft s.slot))) {i:Nat} (hi2:i<args.length) :
  RA C.P s.blk κ F w ((ioAvs C.ft s args).getD i .undef) ((args.map a.eval).getD i undef):=by
 have h1:=usesObL_spec hob i (by simpa using hi2)
 have e1:(args.map (opAV C.ft s.slot)).getD i .undef=opAV C.ft s.slot args[i]:=by simp [List.getD_eq_getElem?_getD,hi2]
 rw [e1] at h1
 have e2:(ioAvs C.ft s args).getD i .undef=(use (opAV C.ft s.slot args[i])).2:=by simp [ioAvs,List.getD_eq_getElem?_getD,hi2]
 have e3:(args.map a.eval).getD i undef=a.eval args[i]:=by simp [List.getD_eq_getElem?_getD,hi2]
 rw [e2,e3]
 exact use_ok (opAV_ok hr args[i]) h1
theorem ioI_ok (hdst:∀ i,o.dst=some i→i<C.nt) {k:Nat} {args:Array Operand} {tys:Array TypeId} (ho:o.op=.call { callee:=.value (.func k),args:=args,argTypes:=tys }) {c:IOC} (hf:IoSpec C.P C.ft k c) {pr:PRes}
  (h:ioI C.ft s o args.toList c=some pr):PrOk C o s pr:=by
 obtain ⟨args⟩:=args
 refine ioG_ok hdst (by rw [ho];intro c hc;cases hc) hf h (fun a w κ F hr hob=>⟨args.map a.eval,by simp,by simp [ioAvs],fun i hi=>ioAvs_ok hr hob (by simpa using hi),?_⟩) fun hb=>args_free hb fun x hx=>by rw [ho];simp [Op.operands,Call.operands];simp_all
 simp only [execOp,ho,Sem.run_bind,resolve,Act.eval,Deferred.ofValue,Sem.run_pure,Result.andThen_ok,invoke]
 have:=hf.enter (args.map a.eval).toArray w
 simpa [Act.eval] using this
theorem cloI_ok {Ψ:Nat→Option KC} (hΨ:∀ k c,Ψ k=some (.io c)→IoSpec C.P C.ft k c) (hdst:∀ i,o.dst=some i→i<C.nt) {t:Nat} {args:Array Operand} {tys:Array TypeId} (ho:o.op=.call { callee:=.value (.tmp t),args:=args,argTypes:=tys }) {pr:PRes}
  (h:cloI C.ft Ψ s o t args.toList=some pr):PrOk C o s pr:=by
 obtain ⟨args⟩:=args
 unfold cloI at h
 split at h
 ·rename_i ob k n caps hu
  have hu:use (opAV C.ft s.slot (.tmp t))=(ob,.clo k n caps):=hu
  split at h
  ·rename_i c hc
   refine ioG_ok hdst (by rw [ho];intro c hc;cases hc) (hΨ k c hc) h (fun a w κ F hr hob=>?_) fun hb=>⟨?_,args_free hb fun x hx=>by rw [ho];simp [Op.operands,Call.operands];simp_all⟩
   ·have hf:=use_op hr (.tmp t) hu hob.1
    obtain ⟨vs,hv1,hv2,hv3⟩:=hf
    refine ⟨args.map a.eval++vs,by simp [hv2],by simp [ioAvs],fun i hi=>?_,?_⟩
    ·have hi:i<args.length+n:=hi
     by_cases hi2:i<args.length
     ·have:=ioAvs_ok hr hob.2 hi2
      have e1:(ioAvs C.ft s args++(List.range n).map caps).getD i .undef=(ioAvs C.ft s args).getD i .undef:=by
       rw [List.getD_eq_getElem?_getD,List.getD_eq_getElem?_getD,List.getElem?_append_left (by simpa [ioAvs] using hi2)]
      have e2:(args.map a.eval++vs).getD i undef=(args.map a.eval).getD i undef:=by
       rw [List.getD_eq_getElem?_getD,List.getD_eq_getElem?_getD,List.getElem?_append_left (by simpa using hi2)]
      rw [e2]
      exact e1 ▸ this
     ·have hin:i - args.length<n:=by omega
      have e1:(ioAvs C.ft s args++(List.range n).map caps).getD i .undef=caps (i - args.length):=by
       rw [List.getD_eq_getElem?_getD,List.getElem?_append_right (by simp [ioAvs];omega)]
       simp [ioAvs,hin]
      have e2:(args.map a.eval++vs).getD i undef=vs.getD (i - args.length) undef:=by
       rw [List.getD_eq_getElem?_getD,List.getD_eq_getElem?_getD,List.getElem?_append_right (by simp;omega)]
       simp
      rw [e2]
      exact e1 ▸ hv3 _ hin
    ·have hv:a.eval (.tmp t)=.func (.func k) #[] vs.toArray:=hv1
     simp only [execOp,ho,Sem.run_bind,resolve,hv,Deferred.ofValue,Sem.run_pure,Result.andThen_ok,invoke]
     have:=(hΨ k c hc).enter ((args.map a.eval++vs).toArray) w
     simpa using this
   ·have:=hb (.tmp t) (by rw [ho];simp [Op.operands,Call.operands])
    rw [hu] at this
    exact this
  ·cases h
 ·cases h
theorem makeI_ok (hT:TabOk C.P T) (hdst:∀ i,o.dst=some i→i<C.nt) {src dst:TypeId} {x:Operand} (ho:o.op=.convert src dst x) {pr:PRes} (h:makeI C.ft T s o src dst x=some pr):PrOk C o s pr:=by
 unfold makeI at h
 split at h
 ·cases h
 ·rename_i hno
  split at h
  ·rename_i hty
   obtain ⟨ht1,ht2⟩:=hty
   split at h
   ·rename_i ob b hu
    split at h
    ·rename_i m hm
     cases h
     refine ⟨fun a w Q K hr hob hmret=>?_,fun gs hgs=>(by cases hgs),fun hb=>hb.use (x:=x) (by rw [ho];simp [Op.operands]) hu⟩
     obtain ⟨κ,F,hr⟩:=hr
     rw [M.ret_req] at hmret
     obtain ⟨hl,hmret⟩:=hmret
     obtain ⟨hx,hx2⟩:=RV_str.1 (use_op hr x hu hob)
     obtain ⟨j,hj,hj2,_⟩:=(hT.is ht1 (by simp)).rawSl.sl
     have hdf:∀ c,o.op≠.defer c:=by rw [ho];intro c hc;cases hc
     have hrun:=Lib.run_convert_string_bytes (P:=C.P) w src dst j ⟨b.toArray⟩ (hT.is ht2 (by simp)).str hj hj2.int
     have hsz:(ByteArray.mk b.toArray).size=b.length:=by show b.toArray.size=_;simp
     rw [hsz] at hrun
     have hws:=Lib.bytesWorld_size w j ⟨b.toArray⟩
     have hold:=Lib.bytesWorld_at_old w j ⟨b.toArray⟩
     have hnew:=Lib.bytesWorld_at_new w j ⟨b.toArray⟩
     have hcalm:Calm w (Lib.bytesWorld w j ⟨b.toArray⟩):=by
      unfold Lib.bytesWorld World.freeze
      split<;>exact ⟨rfl,rfl,rfl⟩
     have hb0:(s.blk POOLN).body=.pool (.int .u8) m∨((s.blk POOLN).body=.dead∧m=[]):=by
      unfold poolOr at hm
      split at hm
      ·rename_i e;cases hm;exact .inr ⟨e,rfl⟩
      ·exact .inl (poolAs_some hm)
     have hkeys:∀ id,id∈m.map (·.1)→id<w.heap.size:=fun id hid=>by
      rcases hb0 with k | ⟨_,rfl⟩
      ·obtain ⟨⟨p1,p2⟩,hp,rfl⟩:=List.mem_map.1 hid
       exact ((hr.pool _ m k).2 p1 p2 hp).2.1
      ·cases hid
     have hcl:(Lib.bytesCells w j ⟨b.toArray⟩).size=b.length+(grownCap w b.length 0 j - b.length):=by
      unfold Lib.bytesCells
      rw [hsz]
      simp
     have hcg:∀ i (h:i<b.length),(Lib.bytesCells w j ⟨b.toArray⟩)[i]?=some (.int .u8 (b[i].toNat:Int)):=fun i h=>by
      unfold Lib.bytesCells
      rw [Array.getElem?_append_left (by simpa using h)]
      simp [h]
     generalize Lib.bytesWorld w j ⟨b.toArray⟩=w' at hrun hws hold hnew hcalm
     generalize Lib.bytesCells w j ⟨b.toArray⟩=cs at hnew hcl hcg
     have hr1:RelK C s a w' κ F:=by
      refine hr.move (H':=s.blk) (Later.refl _ _) (fun _ h=>h) (fun _ h=>.inl h) (by omega) (fun r h _=>hold r h) hcalm (fun he b=>HB.other (hr.blks b) (Later.refl _ _) (fun _ h=>h) he rfl rfl fun ho=>hold _ (hr.own b ho).1)
       (fun b hb=>⟨by have:=(hr.own b hb).1;omega,(hr.own b hb).2.1,.inl ⟨b,hb,rfl⟩⟩) hr.inj (fun r h=>by have:=hr.fsz r h;omega) (fun _ _ h=>⟨rfl,h⟩)
     have hr2:=hr1.padd hb0 (id:=w.heap.size) (xs:=numsOf b) (fun l A L n st e=>hno l A L n st e) (by omega) (fun h=>by have:=hr.fsz _ h;omega) (fun h=>by have:=hr.ksz _ h;have:=hr.size;omega)
      (fun b hb e=>by have:=(hr.own b hb).1;omega) (fun h=>by have:=hkeys _ h;omega) ⟨cs,j,_,_,hnew,by rw [hcl];simp [numsOf,Ty.size],.inr (by rw [hcl];simp [numsOf,Ty.size]),fun i hi=>by
       have hi':i<b.length:=by simpa [numsOf] using hi
       refine ⟨[.int .u8 (b[i].toNat:Int)],fun q hq=>?_,?_⟩
       ·have:q=0:=by simpa using hq
        subst this
        have:=hcg i hi'
        simpa [Ty.size] using this
       ·have e:(numsOf b)[i]=(b[i].toNat:Int):=by simp [numsOf]
        rw [e]
        refine ⟨rfl,?_⟩
        have:=b[i].toNat_lt
        have e0:IntKind.u8.min=0:=by decide
        have e1:IntKind.u8.max=255:=by decide
        exact ⟨by rw [e0];omega,by rw [e1];omega⟩⟩
     refine oper_value hdf ?_ (hmret.2 w.heap.size (fun h=>by have:=hkeys _ h;omega) _ _ ⟨κ,F,hr2.set hdst ((RV_leaf rfl).2 ⟨rfl,.inr ⟨0,grownCap w b.length 0 j,rfl,grownCap_ge w _ 0 j,?_,fun _=>by simp⟩⟩)⟩)
     ·simp [execOp,ho,hx,hrun]
     ·unfold lenLe at hl
      have:=grownCap_le_maxLen w b.length 0 j (by unfold maxLen;omega)
      unfold maxLen at this
      omega
    ·cases h
   ·cases h
  ·cases h
end
end Go.Fer
namespace Go.Fer
open Go.RowKit
section
variable {C:Ctx} {o:Oper} {s:AState}
theorem RelK.round {s:AState} {a:Act} {w w':World} {κ:Nat→KB} {F' F2 Y Y2:Nat→Prop} {l:Nat} {A:Ty} {L:List A.Den→Prop} {I} {n2:List A.Den} {st2:Bool} (hr:RelK C s a w κ F') (hpr:C.pr=⟨l,A,L,I⟩) (hok:C.pr.Ok C.P)
    (hy:∀ r,Y r→r<w.heap.size∧¬F' r∧¬C.K0 r) (hyo:∀ b,(s.blk b).body.owned (κ b)=true→¬Y (κ b).blk)
    (g1:∀ r,F' r→F2 r) (g2:∀ r,F2 r→F' r∨Y r∨w.heap.size≤r) (g3:∀ r,F2 r→r<w'.heap.size) (g4:∀ r,r<w.heap.size→¬Y r→w'.heap[r]?=w.heap[r]?)
    (g5:∀ r,Y2 r→(Y r∨w.heap.size≤r)∧r<w'.heap.size∧¬F2 r) (g6:w.heap.size≤w'.heap.size) (g7:Calm w w') (g8:I n2 st2 F2 Y2 w') (hnp:∀ r,¬PId s.blk r) :
    RelK C ⟨fun i=>if i=TRS then .tr l A L n2 st2 else s.slot i,s.blk⟩ a w' κ F2:=by
  have hext:Ext F' w w':=⟨g6,fun r h=>g4 r (hr.fsz r h) fun hy'=>(hy r hy').2.1 h⟩
  have hnew:∀ r,w.heap.size≤r→¬C.K0 r:=fun r h hk=>by have:=hr.ksz r hk;have:=hr.size;omega
  refine { tsz := hr.tsz, dfr := hr.dfr, slots := fun i => ?_, blks := fun b => HB.other (hr.blks b) (Later.refl _ _) g1 hext rfl rfl fun ho => g4 _ (hr.own b ho).1 (hyo b ho), own := fun b hb => ?_, inj := hr.inj, fsz := g3, flo := fun r h => ?_,
            fhi:=fun r h=>g1 r (hr.fhi r h),ksz:=hr.ksz,keep:=fun r h=>?_,size:=Nat.le_trans hr.size g6,calm:=hr.calm.trans g7,nsz:=hr.nsz,aran:=hr.aran,anch:=hr.anch,ara:=hr.ara,anA:=hr.anA,pro:=fun l' A' L' n' st' e=>?_,pool:=fun e m hm=>⟨(hr.pool e m hm).1,fun id xs hx=>(hnp id ⟨e,m,xs,hm,hx⟩).elim⟩,ftok:=hr.ftok,glob:=hr.glob.mono g1 hext }
  · show RA C.P s.blk κ F2 w' (if i=TRS then .tr l A L n2 st2 else s.slot i) _
    split
    · trivial
    · exact RA.later (Later.refl _ _) g1 hext (hr.slots i)
  · have h:=hr.own b hb
    exact ⟨Nat.lt_of_lt_of_le h.1 g6,fun hf=>(g2 _ hf).elim h.2.1 fun k=>k.elim (hyo b hb) fun k=>absurd h.1 (Nat.not_lt.2 k),h.2.2⟩
  · rcases g2 r h with h | h | h
    · exact hr.flo r h
    · exact .inr (hy r h).2.2
    · exact .inr (hnew r h)
  · exact (g4 r (Nat.lt_of_lt_of_le (hr.ksz r h) hr.size) fun k=>(hy r k).2.2 h).trans (hr.keep r h)
  · simp only [if_true] at e
    cases e
    refine ⟨⟨I,hpr⟩,hok,Y2,fun r h=>⟨(g5 r h).2.1,(g5 r h).2.2,?_⟩,fun b hb h=>?_,?_⟩
    · rcases (g5 r h).1 with h | h
      · exact (hy r h).2.2
      · exact hnew r h
    · rcases (g5 _ h).1 with h | h
      · exact hyo b hb h
      · exact absurd (hr.own b hb).1 (Nat.not_lt.2 h)
    · rw [hpr];exact Proto.at_mk.2 g8
theorem yldI_ok (hdst:∀ i,o.dst=some i→i<C.nt) {t:Nat} {args:Array Operand} {tys:Array TypeId} (ho:o.op=.call { callee:=.value (.tmp t),args:=args,argTypes:=tys }) {pr:PRes}
  (h:yldI C.ft s o t args.toList=some pr):PrOk C o s pr:=by
 obtain ⟨args⟩:=args
 unfold yldI at h
 split at h
 ·rename_i l' l A L n st hs1 hs2
  split at h
  ·rename_i x fl hx
   cases h
   refine ⟨fun a w Q K hr hob hm=>?_,fun gs hgs=>(by cases hgs),fun hb=>args_free hb fun x hx=>by rw [ho];simp [Op.operands,Call.operands];simp_all⟩
   obtain ⟨κ,F,hr⟩:=hr
   rw [M.ret_req] at hm
   obtain ⟨⟨rfl,rfl,hLn⟩,hm⟩:=hm
   obtain ⟨F',f1,hr',f2⟩:=RelK.frzL (asArgs_closed _ hx) hr
   have hargs:RArgs C.P A F' w (args.map a.eval) x:=by
    refine asArgs_ok hr.blks f1 A hx f2 (by simp) fun i hi hi'=>?_
    simp only [List.getElem_map]
    have hi2:i<args.length:=by simpa using hi'
    have h1:=usesObL_spec hob i (by simpa using hi2)
    have e1:(args.map (opAV C.ft s.slot)).getD i .undef=opAV C.ft s.slot args[i]:=by simp [List.getD_eq_getElem?_getD,hi2]
    rw [show (List.map (opAV C.ft s.slot) (⟨args⟩:Array Operand).toList)=args.map (opAV C.ft s.slot) from rfl,e1] at h1
    exact use_ok (opAV_ok hr args[i]) h1
   have hv:a.eval (.tmp t)=.func (.yield l') #[] #[]:=by
    have:=opAV_ok hr (.tmp t)
    have e:opAV C.ft s.slot (.tmp t)=.yld l':=hs1
    rw [e] at this
    exact this
   obtain ⟨⟨I,hpr⟩,hok,Y,hy,hyo,hI⟩:=hr'.pro l' A L n false hs2
   have hok':Proto.Ok C.P ⟨l',A,L,I⟩:=hpr ▸ hok
   rw [hpr] at hI
   have hI:=Proto.at_mk.1 hI
   obtain ⟨fn,tmps,assign,body,h1,h2⟩:=hok'.yield hI hr'.fsz (fun r h=>⟨(hy r h).1,(hy r h).2.1⟩) hLn hargs
   have hrun:(execOp a.eval o).run C.P w=.ok (.round l' fn tmps assign body) w:=by
    simp only [execOp,ho,Sem.run_bind,resolve,hv,Deferred.ofValue,Sem.run_pure,Result.andThen_ok,invoke]
    simpa using h1
   refine ⟨fun _ _=>trivial,?_⟩
   rw [semAt_rnd (by rw [ho];intro c hc;cases hc),hrun,Oper.uponIn_round]
   refine ⟨fun hs=>(by cases hs),?_⟩
   have h3:RoundIn (rnd C.r) 0 C.P l' fn tmps assign body w _:=h2
   refine h3.mono fun e w' ⟨b,F2,Y2,he,g1,g2,g3,g4,g5,g6,g7,g8⟩=>?_
   subst he
   refine hm.2 b trivial _ _ ⟨κ,F2,RelK.set ?_ hdst (RV_bool.2 rfl)⟩
   exact hr'.round hpr hok hy hyo g1 g2 g3 g4 g5 g6 g7 g8 fun r hp=>(hr'.pool.pid hp).1 _ _ _ _ _ hs2
  ·cases h
 ·cases h
end
end Go.Fer
namespace Go.Fer
open Go.RowKit
section
variable {C:Ctx} {T:Nat→Ty} {Φ:Nat→Option FC} {s:AState} {res:OpRes}
theorem findIdx_born {ms:Array MapEntry} {j:Nat} (hj:j<ms.size) (hu:∀ i (h:i<ms.size),ms[i].born=ms[j].born→i=j):ms.findIdx? (fun e=>(e.born:Int) == (ms[j].born:Int))=some j:=by
 rw [Array.findIdx?_eq_some_iff_getElem]
 refine ⟨hj,by simp,fun i hi=>?_⟩
 simp only [beq_iff_eq]
 intro e
 have:=hu i (by omega) (by omega)
 omega
theorem modify_push (ms:Array MapEntry) (e:MapEntry) (f:MapEntry→MapEntry):(ms.push e).modify ms.size f=ms.push (f e):=by
 apply Array.ext
 ·simp
 ·intro i h1 h2
  rw [Array.getElem_modify]
  by_cases hi:ms.size=i
  ·subst hi;simp
  ·have hlt:i<ms.size:=by simp at h2;omega
   rw [if_neg hi,Array.getElem_push_lt hlt,Array.getElem_push_lt hlt]
theorem modify_modify (ms:Array MapEntry) (j:Nat) (f g:MapEntry→MapEntry):(ms.modify j f).modify j g=ms.modify j fun e=>g (f e):=by
 apply Array.ext
 ·simp
 ·intro i h1 h2
  simp only [Array.getElem_modify]
  split<;>rfl
theorem eval_put_ne {a:Act} {d:Nat} {v:Value} {x:Operand} (h:x≠.tmp d):(a.put (some d) v).eval x=a.eval x:=Act.eval_put fun d' e=>by cases e;exact h
theorem eval_put_eq {a:Act} {d:Nat} {v:Value} (h:d<a.tmps.size):(a.put (some d) v).eval (.tmp d)=v:=by
 simp [Act.put,Act.eval,Array.getD_eq_getD_getElem?,h]
theorem ok_entry3 (hT:TabOk C.P T) {o1 o2 o3 oU:Oper} {d1 d2:Nat} {ty:TypeId} {m x y:Operand} (h1:o1.op=.mapEntry ty m x) (t1:o1.dst=some d1) (h2:o2.op=.extract (.tmp d1) 1) (t2:o2.dst=some d2)
  (h3:o3.op=.entryStore ty m (.tmp d2) y) (t3:o3.dst=none) (hU:oU.op=.mapUpdate ty m x y) (tU:oU.dst=none) (hm1:m≠.tmp d1) (hm2:m≠.tmp d2) (hy1:y≠.tmp d1) (hy2:y≠.tmp d2) (hn1:d1<C.nt) (hn2:d2<C.nt)
  (h:(opV C.ft T Φ (opAV C.ft s.slot) oU).run s.blk=some res) {a:Act} {w:World} {κ:Nat→KB} {F:Nat→Prop} {Q:Exit→Act→World→Prop} {K:Act→World→Prop} (hr:RelK C s a w κ F) (hob:res.ob) (hc:res.c)
  (hK:∀ a' w',Rel C (((s.app none res).set (some d1) .undef).set (some d2) .undef) a' w'→K a' w') :
  o1.wpIn (rnd C.r) 0 C.P a w (fun a1 w1=>o2.wpIn (rnd C.r) 0 C.P a1 w1 (fun a2 w2=>o3.wpIn (rnd C.r) 0 C.P a2 w2 K Q) Q) Q:=by
 have h:(opV0 C.ft T Φ (opAV C.ft s.slot) oU).run s.blk=some res:=by simpa only [opV,plV,hU] using h
 have hop:=ok_mapUpdate hT tU (.inl hU) h a w κ F Q hr hob hc
 rw [tU] at hop
 have e1:∀ c,o1.op≠.defer c:=by rw [h1];intro c hc;cases hc
 have e2:∀ c,o2.op≠.defer c:=by rw [h2];intro c hc;cases hc
 have e3:∀ c,o3.op≠.defer c:=by rw [h3];intro c hc;cases hc
 have eU:∀ c,oU.op≠.defer c:=by rw [hU];intro c hc;cases hc
 simp only [opV0,hU,mapUpV] at h
 split at h
 ·rename_i k v ht
  obtain ⟨kid,vid,hi,hik,hiv⟩:=(hT.is ht (by simp)).mp
  obtain ⟨inf,zv,i1,i2,i3,i4,i5,i6⟩:=infoOk_out hiv.info
  split at h
  ·rename_i hck0
   split at h
   ·rename_i b g hme
    simp only [Rd.run_bindO,Option.bind_eq_some_iff,Rd.run_bind,Rd.run_get,Rd.run_ret] at h
    obtain ⟨⟨x',lx⟩,hx,⟨y',ly⟩,hy,h⟩:=h
    split at h
    ·rename_i hg
     obtain ⟨hg,hnb⟩:=hg
     have hnb:b ∉ lx++ly:=by
      have:=hnb
      simp only [List.contains_eq_mem,Bool.not_eq_true',decide_eq_false_iff_not] at this
      exact this
     split at h
     ·rename_i k' v' es hb
      simp only [Option.map_eq_some_iff] at h
      obtain ⟨es',hes,rfl⟩:=h
      obtain ⟨e,rfl⟩:=castDen_some hes
      cases e
      obtain ⟨F',f1,hr',f2⟩:=RelK.frzL ((asDen_closed hx).append (asDen_closed hy)) hr
      have hm:RA C.P s.blk κ F w (use (opAV C.ft s.slot m)).2 (a.eval m):=use_op hr m rfl hob.1
      rw [hme] at hm
      have hmv:=hm.2 hg.symm (by rw [hb];rfl)
      have hkx:=asDen_ok hr.blks f1 hx f2.left (use_op hr x rfl hob.2.1)
      have hbf:(s.frz (lx++ly)).blk b=s.blk b:=by simp only [AState.frz];rw [if_neg hnb]
      have hB:=hr'.blks b
      unfold HB at hB
      rw [hbf,hb] at hB
      obtain ⟨ms,clk,hw,hM⟩:=hB
      have kc:k.comparable=true∧k.nest≤100:=by simpa [keyOk] using hck0
      have hck:=(checkKey_ok (em:=false) k 10000 kc.1 (by omega)).1 hik hkx
      have hE:=hM.es
      obtain ⟨f,q1,q2⟩:=findKey_ok (β:=v.Den) (xs:=es) (es:=ms.toList) hck0 hik hkx hE.1 (fun j e p h1 h2=>(hE.2 j e p h1 h2).1)
      have hget:(getObj (κ b).blk).run C.P w=.ok (.map ms clk) w:=by simp [getObj,Sem.run,hw]
      obtain ⟨ksz,knd,kent,kborn⟩:=hM
      have hts:d1<a.tmps.size:=by have:=hr.tsz;omega
      have hlt:(κ b).blk<w.heap.size:=(Array.getElem?_eq_some_iff.1 hw).1
      have chain:∀ (w1 w2:World) (u:Value) (n:Int),(execOp a.eval o1).run C.P w=.ok (.value (.tuple #[u,goInt n])) w1→(Instr.entryStore ty (.map (some (κ b).blk)) (goInt n) (a.eval y)).run C.P w1=.ok () w2→
        (execOp a.eval oU).run C.P w=.ok .skip w2→
        o1.wpIn (rnd C.r) 0 C.P a w (fun a1 w1=>o2.wpIn (rnd C.r) 0 C.P a1 w1 (fun a2 w2=>o3.wpIn (rnd C.r) 0 C.P a2 w2 K Q) Q) Q:=by
       intro w1 w2 u n r1 r2 rU
       have hrel:=hop.2
       rw [semAt_rnd eU,rU,Oper.uponIn_skip,tU] at hrel
       refine oper_value e1 r1 ?_
       rw [t1]
       have ev1:(a.put (some d1) (.tuple #[u,goInt n])).eval (.tmp d1)=.tuple #[u,goInt n]:=eval_put_eq hts
       refine oper_value (v:=goInt n) (w':=w1) e2 (by simp [execOp,h2,ev1,Instr.extract]) ?_
       rw [t2]
       have hts2:d2<(a.put (some d1) (.tuple #[u,goInt n])).tmps.size:=by have:=hr.tsz;simp [Act.put];omega
       have ev2:((a.put (some d1) (.tuple #[u,goInt n])).put (some d2) (goInt n)).eval (.tmp d2)=goInt n:=eval_put_eq hts2
       have evm:((a.put (some d1) (.tuple #[u,goInt n])).put (some d2) (goInt n)).eval m=.map (some (κ b).blk):=by rw [eval_put_ne hm2,eval_put_ne hm1,hmv]
       have evy:((a.put (some d1) (.tuple #[u,goInt n])).put (some d2) (goInt n)).eval y=a.eval y:=by rw [eval_put_ne hy2,eval_put_ne hy1]
       refine oper_skip e3 (w':=w2) (by simp only [execOp,h3,ev2,evm,evy,Sem.run_bind,r2,Result.andThen_ok,Sem.run_pure]) ?_
       rw [t3]
       refine hK _ _ ?_
       obtain ⟨κ',F',hrel⟩:=hrel
       exact ⟨κ',F',RelK.set (RelK.set (d:=some d1) (av:=.undef) hrel (fun i e=>by cases e;exact hn1) trivial) (fun i e=>by cases e;exact hn2) trivial⟩
      rcases q2 with ⟨rfl,hne⟩ | ⟨j,e,p,g1,g2,g3,g4,rfl⟩
      ·refine chain { w with heap:=w.heap.setIfInBounds (κ b).blk (.map (ms.push { key:=a.eval x,val:=zv,born:=clk }) (clk+1)) } { w with heap:=w.heap.setIfInBounds (κ b).blk (.map (ms.push { key:=a.eval x,val:=a.eval y,born:=clk }) (clk+1)) } zv clk ?_ ?_ ?_
       ·simp only [execOp,h1,hmv,Instr.mapEntry,Sem.run_bind,run_underlying' hi,Result.andThen_ok,hget,hck,q1,run_zeroValue' i1 i4,setObj_run hw,Sem.run_pure]
       ·have hget1:(getObj (κ b).blk).run C.P { w with heap:=w.heap.setIfInBounds (κ b).blk (.map (ms.push { key:=a.eval x,val:=zv,born:=clk }) (clk+1)) }=.ok (.map (ms.push { key:=a.eval x,val:=zv,born:=clk }) (clk+1)) { w with heap:=w.heap.setIfInBounds (κ b).blk (.map (ms.push { key:=a.eval x,val:=zv,born:=clk }) (clk+1)) }:=by simp [getObj,Sem.run,hlt]
        have hfi:(ms.push { key:=a.eval x,val:=zv,born:=clk }).findIdx? (fun e=>(e.born:Int) == (clk:Int))=some ms.size:=by
         have:=findIdx_born (ms:=ms.push { key:=a.eval x,val:=zv,born:=clk }) (j:=ms.size) (by simp) fun i hi he=>by
          by_cases hil:i<ms.size
          ·rw [Array.getElem_push_lt hil] at he
           simp only [Array.getElem_push_eq] at he
           have:=(kent i (by omega) hil).2.2.2.2
           omega
          ·simp at hi;omega
         simpa using this
        simp only [Instr.entryStore,Sem.run_bind,hget1,Result.andThen_ok,goInt,asInt,asIntOf,Sem.run_pure,hfi]
        rw [setObj_run (es:=ms.push { key:=a.eval x,val:=zv,born:=clk }) (clk:=clk+1) (by simp [hlt]),modify_push]
        simp
       ·simp only [execOp,hU,hmv,Instr.mapUpdate,Sem.run_bind,run_underlying' hi,Result.andThen_ok,hget,hck,q1,setObj_run hw,Sem.run_pure]
      ·have hj:j<es.length:=(List.getElem?_eq_some_iff.1 g2).1
       have hjm:j<ms.size:=by omega
       have hej:ms[j]=e:=by
        have:=(List.getElem?_eq_some_iff.1 g1).2
        simpa using this
       obtain ⟨kk,w1,r1,r2,r3⟩:=keyStays_run C.P w e.key (a.eval x)
       have hw1:w1.heap[(κ b).blk]?=some (.map ms clk):=by rcases r3 with rfl | rfl<;>exact hw
       have hlt1:(κ b).blk<w1.heap.size:=(Array.getElem?_eq_some_iff.1 hw1).1
       have hold:((ms[j]?).map (·.key)).getD (a.eval x)=e.key:=by
        rw [Array.getElem?_eq_getElem hjm,hej];rfl
       have hborn:((ms[j]?).map (fun x=>(x.born:Int))).getD 0=(ms[j].born:Int):=by rw [Array.getElem?_eq_getElem hjm];rfl
       rw [Nat.zero_add] at q1
       refine chain { w1 with heap:=w1.heap.setIfInBounds (κ b).blk (.map (ms.modify j fun e=>{ e with key:=kk }) clk) } { w1 with heap:=w1.heap.setIfInBounds (κ b).blk (.map (ms.modify j fun e=>{ e with key:=kk,val:=a.eval y }) clk) } e.val ms[j].born ?_ ?_ ?_
       ·simp only [execOp,h1,hmv,Instr.mapEntry,Sem.run_bind,run_underlying' hi,Result.andThen_ok,hget,hck,q1]
        rw [hold,r1]
        simp only [Result.andThen_ok,setObj_run hw1,Sem.run_pure,hborn]
       ·have hget1:(getObj (κ b).blk).run C.P { w1 with heap:=w1.heap.setIfInBounds (κ b).blk (.map (ms.modify j fun e=>{ e with key:=kk }) clk) }=.ok (.map (ms.modify j fun e=>{ e with key:=kk }) clk) { w1 with heap:=w1.heap.setIfInBounds (κ b).blk (.map (ms.modify j fun e=>{ e with key:=kk }) clk) }:=by simp [getObj,Sem.run,hlt1]
        have hb1:∀ i (h:i<(ms.modify j fun e=>{ e with key:=kk }).size),((ms.modify j fun e=>{ e with key:=kk })[i]).born=(ms[i]'(by simpa using h)).born:=by
         intro i h
         simp only [Array.getElem_modify]
         split<;>rfl
        have hfi:(ms.modify j fun e=>{ e with key:=kk }).findIdx? (fun e=>(e.born:Int) == (ms[j].born:Int))=some j:=by
         have:=findIdx_born (ms:=ms.modify j fun e=>{ e with key:=kk }) (j:=j) (by simpa using hjm) fun i hi he=>by
          rw [hb1 i hi,hb1 j (by simpa using hjm)] at he
          exact kborn i j (by simpa using hi) hjm he
         rw [hb1 j (by simpa using hjm)] at this
         exact this
        simp only [Instr.entryStore,Sem.run_bind,hget1,Result.andThen_ok,goInt,asInt,asIntOf,Sem.run_pure,hfi]
        rw [setObj_run (es:=ms.modify j fun e=>{ e with key:=kk }) (clk:=clk) (by simp [hlt1]),modify_modify]
        simp
       ·simp only [execOp,hU,hmv,Instr.mapUpdate,Sem.run_bind,run_underlying' hi,Result.andThen_ok,hget,hck,q1]
        rw [hold,r1]
        simp only [Result.andThen_ok,setObj_run hw1,Sem.run_pure]
     ·cases h
    ·cases h
   ·cases h
  ·cases h
 ·cases h
end
end Go.Fer
