/- Part 4 of the proof of FilesCopies: shallow programs of Go functions, and what they compute. No condition. -/
import Derived.Test.YtgjjjhfempihkaaDoorFilesCopiesC
import Derived.RangeFuncIn
import Derived.RangeFuncRecord
import Derived.RangeFuncBound
import Derived.Scope
import Derived.RangeFuncLeaves
import Derived.OpenShut
import Derived.KernelRfl
import Derived.WideKeyArgs
import Derived.ChangeSame
import Derived.Test.YtgjjjhfempihkaaDoorProg
import Derived.Shelf.Strings.Cut
import Derived.Shelf.Strings.Split
import Derived.Shelf.Strings.Repeat
import Derived.WalkKit
import Derived.WalkSpells
import Derived.Lib.OthersKept
import Derived.Laws.RangeAny
noncomputable section
namespace Go.Fer
open Go.RowKit
structure ItSpec (P:Program) (k:FuncId) (c:ITC):Prop where
 enter:∀ args w,(callFunc k args).run P w=.ok (.enter k args) w
 calls:∀ (l:Nat) (I:List c.A.Den→Bool→(Nat→Prop)→(Nat→Prop)→World→Prop) (F Y:Nat→Prop) (w:World) (args:List Value) (x:c.ts.Den),RArgs P c.ts F w args x→c.pre x→Proto.Ok P ⟨l,c.A,fun T=>T=c.seq x,I⟩→
  (∀ r,F r→r<w.heap.size)→GlOk P F w→(∀ r,Y r→r<w.heap.size∧¬F r)→I [] false F Y w→Calls P k (args++[Value.func (.yield l) #[] #[]]).toArray w fun e w'=>
   ∃ v pre st F' Y',e=.returned v∧(st=false→pre=c.seq x)∧I pre st F' Y' w'∧(∀ r,F r→F' r)∧(∀ r,F' r→F r∨Y r∨w.heap.size≤r)∧(∀ r,F' r→r<w'.heap.size)∧
    (∀ r,r<w.heap.size→¬Y r→w'.heap[r]?=w.heap[r]?)∧(∀ r,Y' r→(Y r∨w.heap.size≤r)∧r<w'.heap.size∧¬F' r)∧w.heap.size≤w'.heap.size∧Calm w w'
def KC.Ok (P:Program) (U:FnTab) (k:FuncId):KC→Prop
 | .sc c=>FnSpec P k c.ts c.tr c.sh∧(c.det=true→∀ x,(c.sh x).Det)
 | .io c=>IoSpec P U k c
 | .it c=>ItSpec P k c
def PsiOk (P:Program) (U:FnTab) (Ψ:Nat→Option KC):Prop:=∀ k c,Ψ k=some c→c.Ok P U k
section
variable {C:Ctx} {T:Nat→Ty} {Φ:Nat→Option FC} {Ψ:Nat→Option KC} {s:AState} {o:Oper} {Q:Exit→Act→World→Prop} {ops:Array Oper}
theorem scOf_ok (hΦ:CtrOk C.P Φ) (hΨ:PsiOk C.P C.ft Ψ) {k:Nat} {c:SC} (h:scOf Φ Ψ k=some c):FnSpec C.P k c.ts c.tr c.sh:=by
 unfold scOf at h
 split at h
 ·rename_i c' hc'
  cases h
  have:KC.Ok C.P C.ft k (.sc c):=hΨ k _ hc'
  exact this.1
 ·cases h
 ·obtain ⟨f,hf,rfl⟩:=Option.map_eq_some_iff.1 h
  exact hΦ k f hf
theorem equalIn_slnil {P:Program} {w:World} {ty j:TypeId} (hj:P.underlying ty=some (.slice j)) (q:Option Addr) (n cap d:Nat):(Op.equalIn (d+1) ty (.slice q n cap) (.slice none 0 0)).run P w=.ok q.isNone w:=by
 cases q<;>simp [Op.equalIn,run_underlying' hj]
theorem eqGuard_sl {P:Program} {w:World} (op:BinOp) (t:TypeId) (x y:Operand) (q q':Option Addr) (n n' cap cap':Nat):(eqGuard op t x y (.slice q n cap) (.slice q' n' cap')).run P w=.ok () w:=by
 cases op<;>simp [eqGuard]
theorem slnil_run {P:Program} {w:World} {ty j:TypeId} {x y:Operand} (hj:P.underlying ty=some (.slice j)) (q:Option Addr) (n cap:Nat) :
  (do eqGuard .eql ty x y (.slice q n cap) (.slice none 0 0);binOp .eql ty (.slice q n cap) (.slice none 0 0):Sem Value).run P w=.ok (.bool q.isNone) w∧(do eqGuard .neq ty x y (.slice q n cap) (.slice none 0 0);binOp .neq ty (.slice q n cap) (.slice none 0 0):Sem Value).run P w=.ok (.bool (!q.isNone)) w:=by
 have h:(Op.equalIn 10000 ty (.slice q n cap) (.slice none 0 0)).run P w=.ok q.isNone w:=equalIn_slnil (w:=w) hj q n cap 9999
 constructor<;>simp [eqGuard_sl,binOp,Op.equal,Op.maxDepth,h]
theorem nilEqI_ok (hT:TabOk C.P T) (hdst:∀ i,o.dst=some i→i<C.nt) {op:BinOp} {ty ty':TypeId} {x y:Operand} (ho:o.op=.binOp op ty x y ty') {pr:PRes} (h:nilEqI C.ft T s o op ty x y=some pr):PrOk C o s pr:=by
 have hdf:∀ c,o.op≠.defer c:=by rw [ho];intro c hc;cases hc
 unfold nilEqI at h
 split at h
 ·rename_i e ht hye
  have hti:=hT.is ht (by simp)
  obtain ⟨j,hj,_⟩:=hti.sl
  split at h
  ·rename_i xs l hxs
   have key:∀ (a:Act) (w:World) (κ:Nat→KB) (F:Nat→Prop),RelK C s a w κ F→(use (opAV C.ft s.slot x)).1→∃ b:Bool,(b=true→xs=[])∧(op=.eql→(execOp a.eval o).run C.P w=.ok (.value (.bool b)) w)∧(op=.neq→(execOp a.eval o).run C.P w=.ok (.value (.bool (!b))) w):=by
    intro a w κ F hr hob
    have hx:=anyDen hr hxs (use_op hr x rfl hob)
    obtain ⟨_,q,cap,e1,m1,m2,m3,_⟩:=(RV_leaf rfl).1 hx
    have e1:=(List.cons.inj e1).1
    have hy:a.eval y=.slice none 0 0:=by
     have:=opAV_ok hr y
     rw [hye] at this
     exact this
    refine ⟨q.isNone,fun hq=>?_,fun hop=>?_,fun hop=>?_⟩
    ·have:cap=0:=m3 (by cases q with | none=>rfl | some _=>cases hq)
     exact List.length_eq_zero_iff.1 (by omega)
    ·subst hop
     have hr:=(slnil_run (w:=w) (x:=x) (y:=y) hj q xs.length cap).1
     rw [←e1,←hy] at hr
     simp only [execOp,ho,Sem.run_bind] at hr ⊢
     rw [hr]
     rfl
    ·subst hop
     have hr:=(slnil_run (w:=w) (x:=x) (y:=y) hj q xs.length cap).2
     rw [←e1,←hy] at hr
     simp only [execOp,ho,Sem.run_bind] at hr ⊢
     rw [hr]
     rfl
   split at h
   ·cases h
    refine ⟨fun a w Q K hr hob hm=>?_,fun gs hgs=>(by cases hgs),fun hb=>hb x (by rw [ho];simp [Op.operands])⟩
    obtain ⟨κ,F,hr⟩:=hr
    obtain ⟨b,b1,b2,_⟩:=key a w κ F hr hob
    exact oper_value hdf (b2 rfl) (hm.2 b b1 _ _ ⟨κ,F,RelK.set hr hdst (RV_bool.2 rfl)⟩)
   ·cases h
    refine ⟨fun a w Q K hr hob hm=>?_,fun gs hgs=>(by cases hgs),fun hb=>hb x (by rw [ho];simp [Op.operands])⟩
    obtain ⟨κ,F,hr⟩:=hr
    obtain ⟨b,b1,_,b2⟩:=key a w κ F hr hob
    exact oper_value hdf (b2 rfl) (hm.2 b b1 _ _ ⟨κ,F,RelK.set hr hdst (RV_bool.2 rfl)⟩)
   ·cases h
  ·cases h
 ·cases h
theorem progI_ok (hT:TabOk C.P T) (hΦ:CtrOk C.P Φ) (hΨ:PsiOk C.P C.ft Ψ) (hdst:∀ i,o.dst=some i→i<C.nt) {pr:PRes} (h:progI C.ft T Φ Ψ s o=some pr):PrOk C o s pr:=by
 unfold progI at h
 split at h
 ·rename_i c ho
  obtain ⟨callee,args,tys⟩:=c
  split at h
  ·rename_i f hf
   simp only at hf
   subst hf
   split at h
   ·split at h
    ·rename_i c' hc'
     exact ioI_ok hdst ho (hΨ _ _ hc') h
    ·split at h
     ·rename_i sc hsc
      exact scI_ok hdst ho (scOf_ok hΦ hΨ hsc) h
     ·cases h
   ·split at h
    ·rename_i r hr
     cases h
     exact fnI_ok hdst ho hr
    ·split at h
     ·rename_i r hr
      cases h
      exact cloI_ok (fun k c hc=>hΨ k _ hc) hdst ho hr
     ·exact yldI_ok hdst ho h
   ·cases h
  ·cases h
 ·rename_i ty x ho
  exact rangeI_ok hT hdst ho h
 ·rename_i x str ho
  exact nextI_ok hdst ho h
 ·rename_i x ho
  exact entryI_ok hdst ho h
 ·rename_i src dst x ho
  exact makeI_ok hT hdst ho h
 ·rename_i op ty x y ty' ho
  exact nilEqI_ok hT hdst ho h
 ·cases h
theorem bw_eq (want b:Bool):((some b == some want:Bool))=bw want b:=by cases want<;>cases b<;>rfl
theorem yielded_val {a:Act} {j d:Nat} {oj:Oper} (h1:ops[j]?=some oj) (h2:oj.dst=some d) {b:Bool} (h:a.tmps.getD d Go.undef=.bool b):yielded ops a.tmps j=some b:=by
 have:a.tmps[d]?=some (.bool b):=by
  rw [Array.getD_eq_getD_getElem?] at h
  cases he:a.tmps[d]? with
  | none=>rw [he] at h;cases h
  | some v=>rw [he] at h;cases h;rfl
 simp [yielded,h1,h2,this]
theorem yielded_undef {a:Act} {j d:Nat} {oj:Oper} (h1:ops[j]?=some oj) (h2:oj.dst=some d) (h:a.tmps.getD d Go.undef=Go.undef):yielded ops a.tmps j=none:=by
 unfold yielded
 rw [h1]
 simp only [Option.bind_some,h2]
 rw [Array.getD_eq_getD_getElem?] at h
 cases he:a.tmps[d]? with
 | none=>rfl
 | some v=>rw [he] at h;cases h;rfl
theorem guardV_ok {a:Act} {w:World} {κ:Nat→KB} {F:Nat→Prop} (hr:RelK C s a w κ F) {g:Option Bool} (h:guardV s.slot ops o.guard=some g) :
  Region.wanted o (yielded ops a.tmps)=g.getD true:=by
 unfold Region.wanted
 cases hg:o.guard with
 | none=>rw [hg] at h;cases h;rfl
 | some p=>
  obtain ⟨j,want⟩:=p
  rw [hg] at h
  simp only [guardV] at h ⊢
  split at h
  ·rename_i oj hj
   split at h
   ·rename_i d hd
    have hs:=hr.slots d
    split at h
    ·rename_i b hb
     cases h
     rw [hb] at hs
     rw [yielded_val hj hd (RV_bool.1 hs),bw_eq]
     rfl
    ·rename_i g' b hb
     cases h
     rw [hb] at hs
     obtain ⟨h1,h2⟩:=hs
     cases g' with
     | true=>
      rw [yielded_val hj hd (RV_bool.1 (h1 rfl)),bw_eq]
      simp
     | false=>
      rw [yielded_undef hj hd (h2 rfl)]
      rfl
    ·cases h
   ·cases h
  ·cases h
theorem gwb_ok {ob c:Prop} {dv dv':AV} {wb wb':List (Nat×ABlk)} (hg:gwb o dv wb=some (wb',dv')) (h:(opV C.ft T Φ (opAV C.ft s.slot) o).run s.blk=some ⟨ob,c,dv,wb⟩) :
    (∀ a w,Rel C (s.app o.dst ⟨ob,c,dv,wb⟩) a w→Rel C ((s.setBs wb').set o.dst dv') a w)∧(∀ a w κ F,RelK C s a w κ F→∃ κ' F',RelK C (s.setBs wb') a w κ' F'):=by
  unfold gwb at hg
  split at hg
  · cases hg
    exact ⟨fun a w h=>h,fun a w κ F h=>⟨κ,F,h⟩⟩
  · rename_i p l'
    split at hg
    · rename_i fv first caps ho
      cases hg
      refine ⟨fun a w h=>h,fun a w κ F hr=>?_⟩
      simp only [opV,plV,ho,opV0] at h
      split at h
      · split at h
        · split at h
          · simp only [Rd.run_bindO,Option.bind_eq_some_iff,Rd.run_bind,Rd.run_ret,Option.some.injEq] at h
            obtain ⟨⟨y,l⟩,hy,he⟩:=h
            obtain ⟨F',_,hr',_⟩:=RelK.frzL (asArgs_closed _ hy) hr
            have he:(frzB l).run s.blk=p::l':=by injection he
            rw [←he,setBs_frz]
            exact ⟨κ,F',hr'⟩
          · split at h
            · simp only [Rd.run_bindO,Option.bind_eq_some_iff,Rd.run_bind,Rd.run_ret,Option.some.injEq] at h
              obtain ⟨⟨y,l⟩,hy,he⟩:=h
              obtain ⟨F',_,hr',_⟩:=RelK.frzL (asArgs_closed _ hy) hr
              have he:(frzB l).run s.blk=p::l':=by injection he
              rw [←he,setBs_frz]
              exact ⟨κ,F',hr'⟩
            · simp only [okRes,Rd.run_ret,Option.some.injEq] at h
              cases h
        · split at h
          · simp only [okRes,Rd.run_ret,Option.some.injEq] at h
            cases h
          · cases h
      · cases h
    · rename_i ty n ps ho
      split at hg
      · rename_i b' g' e xs hbody
        split at hg
        · rename_i hbg
          obtain ⟨rfl,rfl⟩:=hbg
          cases hg
          obtain ⟨b,⟨gn,bd⟩⟩:=p
          simp only at hbody
          subst hbody
          have hnew:o.dst=some b∧gn=(s.blk b).gen+1:=by
            simp only [opV,plV,ho,opV0] at h
            split at h
            · simp only [Rd.run_bindO,Option.bind_eq_some_iff,Rd.run_bind] at h
              obtain ⟨⟨ys,fl⟩,_,h⟩:=h
              obtain ⟨b0,hb0,hk⟩:=newB_some h
              split at hk
              · injection hk with hk
                injection hk with _ _ h3 _
                injection h3 with h4 h5
                subst h4
                exact ⟨hb0,h5.symm⟩
              · cases hk
            · cases h
          obtain ⟨hdst,rfl⟩:=hnew
          refine ⟨fun a w hrel=>?_,fun a w κ F hr=>?_⟩
          · obtain ⟨κ,F,hr⟩:=hrel
            rw [hdst] at hr ⊢
            simp only [AState.app,AState.setBs] at hr
            have hx:(asDen (.slice e) (.own b ((s.blk b).gen+1))).run ((s.setB b ⟨(s.blk b).gen+1,.arr e xs⟩).set (some b) (.own b ((s.blk b).gen+1))).blk=some (xs,[b]):=by
              simp [asDen,asTop,asLeaf,AState.set,AState.setB,castDen,Ty.isLeaf]
            obtain ⟨F1,f1,hr1,f2⟩:=RelK.frzL (asDen_closed hx) hr
            have hs:=hr.slots b
            have hv:=asDen_ok (v:=a.tmps.getD b undef) hr.blks f1 hx f2 (by simpa [AState.set] using hs)
            have hsl:∀ i,i≠b→((s.setB b ⟨(s.blk b).gen+1,.arr e xs⟩).set (some b) (.own b ((s.blk b).gen+1))).slot i=s.slot i:=fun i hi=>by simp [AState.set,AState.setB,hi]
            have hr2:RelK C ⟨fun i=>if i=b then .val (.slice e) xs else s.slot i,(((s.setB b ⟨(s.blk b).gen+1,.arr e xs⟩).set (some b) (.own b ((s.blk b).gen+1))).frz [b]).blk⟩ a w κ F1:=
              { hr1 with
                tsz:=hr1.tsz,dfr:=hr1.dfr,blks:=hr1.blks
                slots:=fun i=>by
                  show RA _ _ _ _ _ (if i=b then .val (.slice e) xs else s.slot i) _
                  split
                  · rename_i hi
                    subst hi
                    exact hv
                  · rename_i hi
                    rw [←hsl i hi]
                    exact hr1.slots i
                pro:=fun l A L n st e'=>by
                  have e':(if TRS=b then AV.val (.slice e) xs else s.slot TRS)=.tr l A L n st:=e'
                  split at e'
                  · cases e'
                  · rename_i hi
                    exact hr1.pro l A L n st ((hsl TRS hi).trans e')
                pool:=hr1.pool.slots rfl fun l A L n st e'=>by
                  have e':(if TRS=b then AV.val (.slice e) xs else s.slot TRS)=.tr l A L n st:=e'
                  split at e'
                  · cases e'
                  · rename_i hi
                    exact (hsl TRS hi).trans e' }
            refine ⟨κ,F1,hr2.weaken ⟨fun i=>.inl ?_,fun i=>?_⟩⟩
            · simp [AState.set,AState.setBs,AState.setB]
            · by_cases hi:i=b
              · subst hi
                right
                simp [AState.set,AState.setBs,AState.setB,AState.frz,fz]
              · left
                simp [AState.set,AState.setBs,AState.setB,AState.frz,hi]
          · have hn:=nilRow hr (b:=b) (e:=e)
            refine ⟨_,F,hn.weaken ⟨fun i=>.inl rfl,fun i=>?_⟩⟩
            by_cases hi:i=b
            · subst hi
              right
              simp [AState.setBs,AState.setB]
            · left
              simp [AState.setBs,AState.setB,hi]
        · cases hg
      · cases hg
    · cases hg
theorem rq_ret {β:Type} {b:Bool} {p:Prop} {m:M β} {O:β→Prop} (hb:b=true→p):M.Ret (rq b p m) O↔p∧M.Ret m O:=by
 cases b with
 | true=>exact ⟨fun h=>⟨hb rfl,h⟩,fun h=>h.2⟩
 | false=>exact M.ret_req
def TagOk (ops:Array Oper) (s:AState) (tg:Tags):Prop:=∀ p∈tg,∃ b a,s.slot p.1=.whn b a∧guardV s.slot ops (some p.2)=some (some b)
theorem isKey_iff {j d:Nat}:isKey ops j d=true↔d∈guardSlot ops (some (j,true)):=by
 have key:∀ (x:Option Oper),(match x with | some o=>(match o.dst with | some e=>e == d | none=>false) | none=>false)=true↔d∈(match x with | some o=>o.dst.toList | none=>[]):=by
  intro x
  cases x with
  | none=>simp
  | some oj=>
   cases hd:oj.dst with
   | none=>simp [hd]
   | some e=>simp only [hd,beq_iff_eq,Option.toList,List.mem_singleton];exact ⟨fun h=>h.symm,fun h=>h.symm⟩
 exact key _
theorem TagOk.up {s':AState} {tg:Tags} (h:TagOk ops s tg) (hs:∀ i,o.dst≠some i→s'.slot i=s.slot i)
  (hd:∀ d k,o.dst=some d→o.guard=some k→∃ b a,s'.slot d=.whn b a∧guardV s.slot ops (some k)=some (some b)):TagOk ops s' (tagUp ops tg o):=by
 unfold tagUp
 cases hdst:o.dst with
 | none=>
  intro p hp
  obtain ⟨b,a,h1,h2⟩:=h p hp
  refine ⟨b,a,(hs _ (by rw [hdst];simp)).trans h1,?_⟩
  rw [←h2]
  exact guardV_congr fun t _=>hs t (by rw [hdst];simp)
 | some d=>
  have congr:∀ k:Nat×Bool,isKey ops k.1 d=false→guardV s'.slot ops (some k)=guardV s.slot ops (some k):=fun k hk=>guardV_congr fun t ht=>hs t (by
   rw [hdst]
   intro e
   cases e
   have:isKey ops k.1 d=true:=isKey_iff.2 ht
   rw [hk] at this
   cases this)
  have old:TagOk ops s' (tg.filter fun p=>p.1 != d&&!isKey ops p.2.1 d):=by
   intro p hp
   simp only [List.mem_filter,Bool.and_eq_true,bne_iff_ne,ne_eq,Bool.not_eq_true'] at hp
   obtain ⟨b,a,h1,h2⟩:=h p hp.1
   refine ⟨b,a,(hs _ (by rw [hdst];exact fun e=>hp.2.1 (Option.some.inj e).symm)).trans h1,?_⟩
   rw [←h2]
   exact congr _ hp.2.2
  simp only
  split
  ·rename_i k hk
   split
   ·exact old
   ·rename_i hkey
    intro p hp
    rcases List.mem_cons.1 hp with rfl | hp
    ·obtain ⟨b,a,h1,h2⟩:=hd d k hdst hk
     exact ⟨b,a,h1,(congr k (by simpa using hkey)).trans h2⟩
    ·exact old p hp
  ·exact old
section
variable {U:FnTab} {tg:Tags} {gk:Option (Nat×Bool)}
theorem met_ok (hT:TagOk ops s tg) (hg:∀ k,gk=some k→guardV s.slot ops (some k)=some (some true)) {x:Operand} (h:met (opAV U s.slot) tg gk x=true):(use (opAV U s.slot x)).1:=by
 unfold met at h
 rw [Bool.or_eq_true] at h
 rcases h with h | h
 ·exact use_free (by simpa using h)
 ·split at h
  ·rename_i t k
   obtain ⟨p,hp,hpk⟩:=List.any_eq_true.1 h
   simp only [Bool.and_eq_true,beq_iff_eq] at hpk
   obtain ⟨rfl,h1,h2⟩:=hpk
   have hpk:p.2=k:=Prod.ext h1 h2
   obtain ⟨b,a,k1,k2⟩:=hT p hp
   rw [hpk,hg k rfl] at k2
   cases k2
   have e:opAV U s.slot (.tmp p.1)=s.slot p.1:=rfl
   rw [e,k1]
   exact rfl
  ·cases h
theorem allM_ok (hT:TagOk ops s tg) (hg:∀ k,gk=some k→guardV s.slot ops (some k)=some (some true)) (h:allM (opAV U s.slot) tg gk o=true):UseOk (opAV U s.slot) o:=
 fun x hx=>met_ok hT hg (List.all_eq_true.1 h x hx)
theorem metP_ok (hT:TagOk ops s tg) {c x:Operand} {want:Bool} {oc:Prop} {cv:Bool} (hc:use (opAV U s.slot c)=(oc,.val .bool cv)) (hoc:oc) (h:metP ops tg c x want=true) (hw:bw want cv=true):(use (opAV U s.slot x)).1:=by
 unfold metP at h
 split at h
 ·rename_i c t
  obtain ⟨p,hp,hpk⟩:=List.any_eq_true.1 h
  simp only [Bool.and_eq_true,beq_iff_eq] at hpk
  obtain ⟨rfl,h1,rfl⟩:=hpk
  obtain ⟨b,a,k1,k2⟩:=hT p hp
  have e:opAV U s.slot (.tmp p.1)=s.slot p.1:=rfl
  rw [e,k1]
  show b=true
  unfold isKey at h1
  have hp2:p.2=(p.2.1,p.2.2):=rfl
  rw [hp2] at k2
  unfold guardV at k2
  have hc':use (s.slot c)=(oc,.val .bool cv):=hc
  split at h1
  ·rename_i oj hj
   split at h1
   ·rename_i d hd
    have hdc:d=c:=by simpa using h1
    subst hdc
    simp only [hj,hd] at k2
    split at k2
    ·rename_i b0 hb0
     rw [hb0] at hc'
     simp only [use,Prod.mk.injEq,AV.val.injEq,heq_eq_eq,true_and] at hc'
     obtain ⟨_,rfl⟩:=hc'
     cases k2
     exact hw
    ·rename_i g0 b0 hb0
     rw [hb0] at hc'
     simp only [use,Prod.mk.injEq,AV.val.injEq,heq_eq_eq,true_and] at hc'
     obtain ⟨rfl,rfl⟩:=hc'
     cases k2
     simp [hoc,hw]
    ·cases k2
   ·cases h1
  ·cases h1
 ·cases h
theorem obM_ok (hT:TagOk ops s tg) (hg:∀ k,gk=some k→guardV s.slot ops (some k)=some (some true)) (h:obM (opAV U s.slot) ops tg gk o=true):(opV U T Φ (opAV U s.slot) o).All (optP fun r=>r.ob):=by
 cases ho:o.op with
 | pick c a b=>
  simp only [obM,ho,Bool.and_eq_true,Bool.or_eq_true] at h
  obtain ⟨h1,h2,h3⟩:=h
  have e0:opV U T Φ (opAV U s.slot) o=opV0 U T Φ (opAV U s.slot) o:=by simp only [opV,plV,ho]
  rw [e0]
  unfold opV0;rw [ho];simp only
  split
  ·rename_i oc cv hcv
   have hoc:oc:=by have:=met_ok hT hg h1;rw [hcv] at this;exact this
   split
   ·split
    ·rename_i oa av ha
     refine .okRes ⟨hoc,fun hv=>?_⟩
     have:(use (opAV U s.slot a)).1:=by
      rcases h2 with h2 | h2
      ·exact met_ok hT hg h2
      ·exact metP_ok hT hcv hoc h2 hv
     rw [ha] at this
     exact this
    ·exact .none'
   ·split
    ·rename_i oa av ha
     refine .okRes ⟨hoc,fun hv=>?_⟩
     have:(use (opAV U s.slot b)).1:=by
      rcases h3 with h3 | h3
      ·exact met_ok hT hg h3
      ·exact metP_ok hT hcv hoc h3 (by subst hv;rfl)
     rw [ha] at this
     exact this
    ·exact .none'
   ·exact .none'
  ·exact .none'
 | _=>
  simp only [obM,ho] at h
  exact opV_obU (allM_ok hT hg h)
theorem dvM_ok (hT:TagOk ops s tg) (hg:∀ k,gk=some k→guardV s.slot ops (some k)=some (some true)) {ob c:Prop} {dv dv':AV} {wb wb':List (Nat×ABlk)} (hw:gwb o dv wb=some (wb',dv')) (hr:(opV U T Φ (opAV U s.slot) o).run s.blk=some ⟨ob,c,dv,wb⟩)
  (h:dvM (opAV U s.slot) tg gk o dv'=true):(use dv').1:=by
 unfold dvM at h
 rw [Bool.or_eq_true] at h
 rcases h with h | h
 ·exact use_free (by simpa using h)
 ·split at h
  ·rename_i x ho
   simp only [opV,plV,ho,opV0,okRes,Rd.run_ret,Option.some.injEq,OpRes.mk.injEq] at hr
   obtain ⟨_,_,rfl,rfl⟩:=hr
   simp only [gwb,Option.some.injEq,Prod.mk.injEq] at hw
   obtain ⟨_,rfl⟩:=hw
   exact met_ok hT hg h
  ·cases h
end
theorem AState.set_slot {s:AState} {d:Option Nat} {v:AV} {i:Nat} (h:d≠some i):(s.set d v).slot i=s.slot i:=by
 cases d with
 | none=>rfl
 | some d=>simp only [AState.set];rw [if_neg fun e=>h (by rw [e])]
theorem AState.set_slot' {s:AState} {d:Nat} {v:AV}:(s.set (some d) v).slot d=v:=by simp [AState.set]
theorem AState.setBs_slot:∀ (l:List (Nat×ABlk)) (s:AState),(s.setBs l).slot=s.slot
 | [],_=>rfl
 | p::l,s=>by
  have:=AState.setBs_slot l (s.setB p.1 p.2)
  exact this
theorem progI_gst {U:FnTab} {pr:PRes} {gs:Bool→pr.α→AState} (h:progI U T Φ Ψ s o=some pr) (hg:pr.gst=some gs):∀ g y,∃ v,(gs g y).slot=(s.set o.dst (.whn g v)).slot:=by
 have after:∀ (t:Ty) (fl:List Nat) (v:AV),(afterCall s o t fl v).slot=(s.set o.dst v).slot:=fun t fl v=>by
  unfold afterCall
  split
  ·rfl
  ·cases o.dst<;>rfl
 have sc:∀ {args:List Operand} {c:SC} {pr:PRes} {gs:Bool→pr.α→AState},scI U s o args c=some pr→pr.gst=some gs→∀ g y,∃ v,(gs g y).slot=(s.set o.dst (.whn g v)).slot:=by
  intro args c pr gs h hg
  unfold scI at h
  split at h
  ·cases h
   cases hg
   exact fun g y=>⟨_,after _ _ _⟩
  ·cases h
 have fc:∀ {t:Nat} {args:List Operand} {pr:PRes} {gs:Bool→pr.α→AState},fnI U s o t args=some pr→pr.gst=some gs→∀ g y,∃ v,(gs g y).slot=(s.set o.dst (.whn g v)).slot:=by
  intro t args pr gs h hg
  unfold fnI at h
  split at h
  ·split at h
   ·cases h
    cases hg
    exact fun g y=>⟨_,after _ _ _⟩
   ·cases h
  ·cases h
 have gc:∀ {c:IOC} {avs:List AV} {ob:Prop} {n:Nat} {pr:PRes} {gs:Bool→pr.α→AState},ioG s o c avs ob n=some pr→pr.gst=some gs→∀ g y,∃ v,(gs g y).slot=(s.set o.dst (.whn g v)).slot:=by
  intro c avs ob n pr gs h hg
  unfold ioG at h
  split at h
  ·split at h
   ·cases h;cases hg
   ·cases h
  ·cases h
 unfold progI at h
 split at h
 ·split at h
  ·split at h
   ·split at h
    ·exact gc h hg
    ·split at h
     ·exact sc h hg
     ·cases h
   ·split at h
    ·rename_i hr
     cases h
     exact fc hr hg
    ·split at h
     ·rename_i hr
      cases h
      unfold cloI at hr
      split at hr
      ·split at hr
       ·exact gc hr hg
       ·cases hr
      ·cases hr
     ·unfold yldI at h
      split at h
      ·split at h
       ·cases h;cases hg
       ·cases h
      ·cases h
   ·cases h
  ·cases h
 ·unfold rangeI at h
  split at h
  ·split at h
   split at h
   ·split at h
    ·cases h
    ·cases h;cases hg
   ·cases h
  ·cases h
 ·unfold nextI at h
  split at h
  ·split at h
   ·split at h
    ·cases h;cases hg
    ·cases h
   ·cases h
  ·cases h
 ·unfold entryI at h
  split at h
  ·split at h
   ·split at h
    ·cases h;cases hg
    ·cases h
   ·cases h
  ·cases h
 ·unfold makeI at h
  split at h
  ·cases h
  ·split at h
   ·split at h
    ·split at h
     ·cases h;cases hg
     ·cases h
    ·cases h
   ·cases h
 ·unfold nilEqI at h
  split at h
  ·split at h
   ·split at h
    ·cases h;cases hg
    ·cases h;cases hg
    ·cases h
   ·cases h
  ·cases h
 ·cases h
theorem tmp?_some {x:Operand} {t:Nat} (h:tmp? x=some t):x=.tmp t:=by
 cases x<;>simp [tmp?] at h
 rw [h]
theorem fuse3_ok {o o2 o3 oU:Oper} {d1 d2:Nat} (h:fuse3 o o2 o3=some (oU,d1,d2)):∃ ty m x y,o.op=.mapEntry ty m x∧o.dst=some d1∧o2.op=.extract (.tmp d1) 1∧o2.dst=some d2∧o3.op=.entryStore ty m (.tmp d2) y∧o3.dst=none∧
  oU.op=.mapUpdate ty m x y∧oU.dst=none∧m≠.tmp d1∧m≠.tmp d2∧y≠.tmp d1∧y≠.tmp d2∧o.guard=none∧o2.guard=none∧o3.guard=none:=by
 unfold fuse3 at h
 split at h
 ·rename_i ty m x ho
  split at h
  ·rename_i e ho2
   split at h
   ·rename_i ty' m' e' y ho3
    split at h
    ·rename_i d1' d2' hd1 hd2 hd3
     split at h
     ·rename_i hc
      simp only [Option.some.injEq,Prod.mk.injEq] at h
      obtain ⟨rfl,rfl,rfl⟩:=h
      obtain ⟨c1,c2,rfl,c4,c5,c6,c7,c8,c9,c10,c11,c12,c13⟩:=hc
      obtain ⟨tm,htm⟩:=Option.isSome_iff_exists.1 c4
      have hm':=tmp?_some htm
      have hm:=tmp?_some (c5.symm.trans htm)
      have e1:=tmp?_some c1
      have e2:=tmp?_some c2
      subst e1;subst e2
      refine ⟨ty',m,x,y,ho,hd1,ho2,hd2,?_,hd3,rfl,hd3,fun e=>c7 (by rw [e];rfl),fun e=>c8 (by rw [e];rfl),fun e=>c9 (by rw [e];rfl),fun e=>c10 (by rw [e];rfl),Option.isNone_iff_eq_none.1 c11,Option.isNone_iff_eq_none.1 c12,Option.isNone_iff_eq_none.1 c13⟩
      rw [ho3,hm',hm]
     ·cases h
    ·cases h
   ·cases h
  ·cases h
 ·cases h
theorem regI_ok {β:Type} (hT:TabOk C.P T) (hΦ:CtrOk C.P Φ) (hΨ:PsiOk C.P C.ft Ψ) (hd:∀ o∈ops.toList,dstOk o C.nt=true) {k:AState→M β} {O:β→Prop}
  (hk:∀ s' a' w',Rel C s' a' w'→M.Ret (k s') O→Q .normal a' w'):∀ (os:List Oper) (n:Nat) (tg:Tags) (s:AState) (a:Act) (w:World),ops.toList.drop n=os→TagOk ops s tg→Rel C s a w→M.Ret (regI C.ft T Φ Ψ ops os tg s k) O→
   wpOpsIn (rnd C.r) 0 C.P ops Q (List.range' n os.length) a w:=by
 intro os
 generalize hlen:os.length=len
 induction len using Nat.strongRecOn generalizing os with
 | _ len ih0=>
 subst hlen
 cases os with
 | nil=>
  intro n tg s a w _ _ hr hm
  exact hk s a w hr hm
 | cons o os=>
  have ih:=ih0 os.length (by simp) os rfl
  intro n tg s a w hn htg hr hm
  have hlt:n<ops.toList.length:=by
   rcases Nat.lt_or_ge n ops.toList.length with h | h
   ·exact h
   ·rw [List.drop_eq_nil_of_le h] at hn;cases hn
  rw [List.drop_eq_getElem_cons hlt] at hn
  injection hn with hn1 hn2
  have hget:ops[n]?=some o:=by
   rw [←hn1];simp at hlt;simp [hlt]
  have hmem:o∈ops.toList:=hn1 ▸ List.getElem_mem hlt
  have hdo:=hd o hmem
  have hdst:∀ i,o.dst=some i→i<C.nt:=fun i hi=>by
   have:=hdo
   simp only [dstOk,Bool.and_eq_true] at this
   have:=this.1
   rw [hi] at this
   simpa using this
  simp only [List.length_cons,List.range'_succ,wpOpsIn,hget]
  obtain ⟨κ,F,hrk⟩:=hr
  unfold regI at hm
  split at hm
  ·rename_i oU d1 d2 hfu
   cases os with
   | nil=>exact hm.1.elim
   | cons o2 os=>
    cases os with
    | nil=>exact hm.1.elim
    | cons o3 os=>
     simp only at hm
     split at hm
     ·rename_i res hres
      obtain ⟨ty,m,x,y,f1,f2,f3,f4,f5,f6,f7,f8,f9,f10,f11,f12,g1,g2,g3⟩:=fuse3_ok hfu
      have hn2':=hn2
      have hlt2:n+1<ops.toList.length:=by
       rcases Nat.lt_or_ge (n+1) ops.toList.length with h | h
       ·exact h
       ·rw [List.drop_eq_nil_of_le h] at hn2';cases hn2'
      rw [List.drop_eq_getElem_cons hlt2] at hn2'
      injection hn2' with hn21 hn22
      have hlt3:n+2<ops.toList.length:=by
       rcases Nat.lt_or_ge (n+2) ops.toList.length with h | h
       ·exact h
       ·rw [List.drop_eq_nil_of_le h] at hn22;cases hn22
      rw [List.drop_eq_getElem_cons hlt3] at hn22
      injection hn22 with hn31 hn32
      have hget2:ops[n+1]?=some o2:=by
       rw [←hn21];simp at hlt2;simp [hlt2]
      have hget3:ops[n+2]?=some o3:=by
       rw [←hn31];simp at hlt3;simp [hlt3]
      have hd2:d2<C.nt:=by
       have:=hd o2 (hn21 ▸ List.getElem_mem hlt2)
       simp only [dstOk,Bool.and_eq_true] at this
       have:=this.1
       rw [f4] at this
       simpa using this
      rw [M.ret_req,M.ret_req] at hm
      have w1:Region.wanted o (yielded ops a.tmps)=true:=by unfold Region.wanted;rw [g1]
      have w2:∀ a':Act,Region.wanted o2 (yielded ops a'.tmps)=true:=fun a'=>by unfold Region.wanted;rw [g2]
      have w3:∀ a':Act,Region.wanted o3 (yielded ops a'.tmps)=true:=fun a'=>by unfold Region.wanted;rw [g3]
      have:=ok_entry3 (Q:=Q) (K:=fun a' w'=>wpOpsIn (rnd C.r) 0 C.P ops Q (List.range' (n+3) os.length) a' w') hT f1 f2 f3 f4 f5 f6 f7 f8 f9 f10 f11 f12 (hdst d1 f2) hd2 hres hrk hm.1 hm.2.1
       fun a' w' hr'=>ih0 os.length (by simp;omega) os rfl (n+3) [] _ a' w' hn32 (fun p hp=>by cases hp) hr' hm.2.2
      rw [w1]
      simp only [if_true]
      refine Oper.wpIn_mono (fun a1 w1' h1=>?_) this
      simp only [List.length_cons,List.range'_succ,wpOpsIn,hget2,w2,if_true]
      refine Oper.wpIn_mono (fun a2 w2' h2=>?_) h1
      simp only [Nat.add_assoc,hget3,w3,if_true]
      exact h2
     ·exact hm.1.elim
  split at hm
  ·exact hm.1.elim
  ·rename_i hg
   have hgn:o.guard=none:=by
    cases h:o.guard with
    | none=>rfl
    | some p=>
     rw [h] at hg
     simp only [guardV] at hg
     split at hg
     ·split at hg
      ·split at hg<;>cases hg
      ·cases hg
     ·cases hg
   rw [guardV_ok hrk hg]
   simp only [Option.getD_none,if_true]
   split at hm
   ·rename_i res hres
    rw [rq_ret fun hb=>(obM_ok htg (gk:=none) (fun k hk=>by cases hk) hb).run s.blk res hres,rq_ret fun hb=>(opV_c hb).run s.blk res hres] at hm
    refine Oper.wpIn_mono (fun a' w' hr'=>ih (n+1) _ _ a' w' hn2 (htg.up (fun i hi=>?_) fun d k _ hk=>by rw [hgn] at hk;cases hk) hr' hm.2.2) (opV_ok hT hΦ hdo hres a w κ F Q hrk hm.1 hm.2.1)
    unfold AState.app
    rw [AState.set_slot hi,AState.setBs_slot]
   ·split at hm
    ·rename_i pr hpr
     obtain ⟨p1,p2,p3⟩:=progI_ok hT hΦ hΨ hdst hpr
     rw [rq_ret fun hb=>p3 (obF_ok hb),M.ret_bind] at hm
     exact p1 a w Q _ ⟨κ,F,hrk⟩ hm.1 (hm.2.mono fun y hy a' w' hr'=>ih (n+1) _ _ a' w' hn2 (fun p hp=>by cases hp) hr' hy)
    ·exact hm.1.elim
  ·rename_i g hg
   have hgk:∀ k,o.guard=some k→g=true→guardV s.slot ops (some k)=some (some true):=fun k hk ht=>by rw [←hk,hg,ht]
   rw [guardV_ok hrk hg]
   simp only [Option.getD_some]
   split at hm
   ·rename_i ob c dv0 wb0 hres
    split at hm
    ·rename_i wb dv hwb
     obtain ⟨gw1,gw2⟩:=gwb_ok hwb hres
     rw [rq_ret fun hb=>by
      simp only [Bool.and_eq_true] at hb
      exact fun hgt=>⟨(obM_ok htg (fun k hk=>hgk k hk hgt) hb.1).run s.blk _ hres,(opV_c hb.2.1).run s.blk _ hres,dvM_ok htg (fun k hk=>hgk k hk hgt) hwb hres hb.2.2⟩] at hm
     have htg':TagOk ops ((s.setBs wb).set o.dst (.whn g (use dv).2)) (tagUp ops tg o):=htg.up (fun i hi=>by rw [AState.set_slot hi,AState.setBs_slot]) fun d k hd hk=>⟨g,(use dv).2,by rw [hd,AState.set_slot'],by rw [←hk,hg]⟩
     cases g with
     | true=>
      simp only [if_true]
      obtain ⟨h1,h2,h3⟩:=hm.1 rfl
      refine Oper.wpIn_mono (fun a' w' hr'=>ih (n+1) _ _ a' w' hn2 htg' (Rel.reslot (av':=.whn true (use dv).2) (gw1 a' w' hr') hdst fun κ F v hv=>⟨fun _=>use_ok hv h3,fun h=>(by cases h)⟩) hm.2) (opV_ok hT hΦ hdo hres a w κ F Q hrk h1 h2)
     | false=>
      simp only [Bool.false_eq_true,if_false]
      refine ⟨fun _ _=>trivial,ih (n+1) _ _ _ w hn2 htg' ?_ hm.2⟩
      obtain ⟨κ',F',hrk'⟩:=gw2 a w κ F hrk
      exact ⟨κ',F',hrk'.set (av:=.whn false (use dv).2) hdst ⟨fun h=>(by cases h),fun _=>rfl⟩⟩
    ·cases g with
     | true=>
      simp only [if_true] at hm ⊢
      rw [M.ret_req,M.ret_req] at hm
      exact Oper.wpIn_mono (fun a' w' hr'=>ih (n+1) _ _ a' w' hn2 (fun p hp=>by cases hp) hr' hm.2.2) (opV_ok hT hΦ hdo hres a w κ F Q hrk hm.1 hm.2.1)
     | false=>
      simp only [Bool.false_eq_true,if_false] at hm ⊢
      exact ⟨fun _ _=>trivial,ih (n+1) _ _ _ w hn2 (fun p hp=>by cases hp) ⟨κ,F,hrk.set (av:=.whn false (offV wb0 (use dv0).2)) hdst ⟨fun h=>(by cases h),fun _=>rfl⟩⟩ hm⟩
   ·split at hm
    ·rename_i pr hpr
     obtain ⟨p1,p2,p3⟩:=progI_ok hT hΦ hΨ hdst hpr
     split at hm
     ·rename_i gs hgs
      obtain ⟨q1,q2⟩:=p2 gs hgs
      rw [rq_ret fun hb hgt=>p3 (allM_ok htg (fun k hk=>hgk k hk hgt) hb),M.ret_bind] at hm
      have htg':∀ y,TagOk ops (gs g y) (tagUp ops tg o):=fun y=>by
       obtain ⟨v,hv⟩:=progI_gst hpr hgs g y
       exact htg.up (fun i hi=>by rw [hv,AState.set_slot hi]) fun d k hd hk=>⟨g,v,by rw [hv,hd,AState.set_slot'],by rw [←hk,hg]⟩
      cases g with
      | true=>
       simp only [if_true]
       exact p1 a w Q _ ⟨κ,F,hrk⟩ (hm.1 rfl) (hm.2.mono fun y hy a' w' hr'=>ih (n+1) _ _ a' w' hn2 (htg' y) (q1 y a' w' hr') hy)
      | false=>
       simp only [Bool.false_eq_true,if_false]
       exact ⟨fun _ _=>trivial,ih (n+1) _ _ _ w hn2 (htg' pr.d) (q2 a w ⟨κ,F,hrk⟩) (by
        have h:=hm.2
        simp only [gdo,Bool.false_eq_true,if_false] at h
        exact h.2 pr.d rfl)⟩
     ·cases g with
      | true=>
       simp only [if_true] at hm ⊢
       rw [M.ret_req,M.ret_bind] at hm
       exact p1 a w Q _ ⟨κ,F,hrk⟩ hm.1 (hm.2.mono fun y hy a' w' hr'=>ih (n+1) _ _ a' w' hn2 (fun p hp=>by cases hp) hr' hy)
      | false=>
       simp only [Bool.false_eq_true,if_false] at hm ⊢
       exact ⟨fun _ _=>trivial,ih (n+1) _ _ _ w hn2 (fun p hp=>by cases hp) ⟨κ,F,hrk.set (av:=.whn false (use ((pr.st pr.d).slot (o.dst.getD 0))).2) hdst ⟨fun h=>(by cases h),fun _=>rfl⟩⟩ hm⟩
    ·exact hm.1.elim
end
end Go.Fer
namespace Go.Fer
open Go.RowKit
section
variable {C:Ctx} {T:Nat→Ty} {Φ:Nat→Option FC} {s:AState} {res:OpRes}
theorem RC_cmp {P:Program}:∀ (t:Ty),t.comparable=true→∀ {F F':Nat→Prop} {w w':World} {cs:List Value} {x:t.Den},RC P t F w cs x→RC P t F' w' cs x:=by
 intro t
 induction t with
 | bool=>intro _ F F' w w' cs x h;exact h
 | int k=>intro _ F F' w w' cs x h;exact h
 | str=>intro _ F F' w w' cs x h;exact h
 | unit=>intro hc;cases hc
 | st t ih=>intro hc F F' w w' cs x h;simp only [RC] at h ⊢;exact ih hc h
 | prod a b iha ihb=>
  intro hc F F' w w' cs x h
  simp only [Ty.comparable,Bool.and_eq_true] at hc
  simp only [RC] at h ⊢
  obtain ⟨c,d,rfl,ha,hb⟩:=h
  exact ⟨c,d,rfl,iha hc.1 ha,ihb hc.2 hb⟩
 | slice e ih=>intro hc;cases hc
 | array n e ih=>intro hc;cases hc
 | ptr e ih=>intro hc;cases hc
 | map k v ihk ihv=>intro hc;cases hc
 | fn a b iha ihb=>intro hc;cases hc
 | it a ih=>intro hc;cases hc
 | raws e ih=>intro hc;cases hc
theorem RV_cmp {P:Program} {t:Ty} (h:t.comparable=true) {F F':Nat→Prop} {w w':World} {v:Value} {x:t.Den} (hv:RV P t F w v x):RV P t F' w' v x:=⟨hv.1,RC_cmp t h hv.2⟩
theorem put_comm (a:Act) {i j:Nat} (h:i≠j) (v u:Value):(a.put (some i) v).put (some j) u=(a.put (some j) u).put (some i) v:=by
 simp only [Act.put]
 rw [Array.setIfInBounds_comm _ _ h]
theorem lookup_at {P:Program} {ty kid vid:TypeId} (hi:P.underlying ty=some (.map kid vid)) {r:Nat} {ms:Array MapEntry} {clk:Nat} {w:World} (hw:w.heap[r]?=some (.map ms clk)) {key u:Value} {f:Option (Nat×Value)}
  (hck:(Instr.checkKey ms.isEmpty 10000 kid key).run P w=.ok () w) (hf:(Instr.findKey kid key ms.toList).run P w=.ok f w) (hu:(∃ i,f=some (i,u))∨(f=none∧(zeroValue vid).run P w=.ok u w)) :
  (Instr.lookup ty (.map (some r)) key false).run P w=.ok u w:=by
 have hget:(getObj r).run P w=.ok (.map ms clk) w:=by simp [getObj,Sem.run,hw]
 rcases hu with ⟨i,rfl⟩ | ⟨rfl,hz⟩
 ·simp only [Instr.lookup,Sem.run_bind,run_underlying' hi,Result.andThen_ok,Sem.run_pure,hget,hck,hf]
  rfl
 ·simp only [Instr.lookup,Sem.run_bind,run_underlying' hi,Result.andThen_ok,Sem.run_pure,hget,hck,hf,hz]
  rfl
theorem ent_facts (hT:TabOk C.P T) {oL oE oU:Oper} {ty:TypeId} {m x y:Operand} (hL:oL.op=.lookup ty m x false) (hE:oE.op=.mapEntry ty m x) (hU:oU.op=.mapUpdate ty m x y) {s2:AState} (hb2:s2.blk=s.blk)
  (hm2:opAV C.ft s2.slot m=opAV C.ft s.slot m) (hx2:opAV C.ft s2.slot x=opAV C.ft s.slot x) (h:(opV C.ft T Φ (opAV C.ft s2.slot) oU).run s2.blk=some res)
  {a:Act} {w:World} {κ:Nat→KB} {F:Nat→Prop} (hr:RelK C s a w κ F) (hobm:(use (opAV C.ft s.slot m)).1) (hobx:(use (opAV C.ft s.slot x)).1) :
  ∃ u n wE,∀ a':Act,a'.eval m=a.eval m→a'.eval x=a.eval x→
   (execOp a'.eval oL).run C.P w=.ok (.value u) w∧(execOp a'.eval oL).run C.P wE=.ok (.value u) wE∧(execOp a'.eval oE).run C.P w=.ok (.value (.tuple #[u,goInt n])) wE:=by
 simp only [opV,plV,hU,opV0,mapUpV,hm2,hx2,hb2] at h
 split at h
 ·rename_i k v ht
  obtain ⟨kid,vid,hi,hik,hiv⟩:=(hT.is ht (by simp)).mp
  obtain ⟨inf,zv,i1,i2,i3,i4,i5,i6⟩:=infoOk_out hiv.info
  split at h
  ·rename_i hck0
   split at h
   ·rename_i b g hme
    simp only [Rd.run_bindO,Option.bind_eq_some_iff,Rd.run_bind,Rd.run_get,Rd.run_ret] at h
    obtain ⟨⟨x',lx⟩,hx,⟨y',ly⟩,hy,h⟩:=h
    split at h
    ·rename_i hg
     obtain ⟨hg,_⟩:=hg
     split at h
     ·rename_i k' v' es hb
      simp only [Option.map_eq_some_iff] at h
      obtain ⟨es',hes,rfl⟩:=h
      obtain ⟨e,rfl⟩:=castDen_some hes
      cases e
      have hm:RA C.P s.blk κ F w (use (opAV C.ft s.slot m)).2 (a.eval m):=use_op hr m rfl hobm
      rw [hme] at hm
      have hmv:=hm.2 hg.symm (by rw [hb];rfl)
      have kc:k.comparable=true∧k.nest≤100:=by simpa [keyOk] using hck0
      have hkx:=anyDen hr hx (use_op hr x rfl hobx)
      have hkx':∀ (F':Nat→Prop) w',RV C.P k F' w' (a.eval x) x':=fun F' w'=>RV_cmp kc.1 hkx
      have hB:=hr.blks b
      unfold HB at hB
      rw [hb] at hB
      obtain ⟨ms,clk,hw,hM⟩:=hB
      have hck:∀ em w',(Instr.checkKey em 10000 kid (a.eval x)).run C.P w'=.ok () w':=fun em w'=>(checkKey_ok (em:=em) (F:=fun _=>True) k 10000 kc.1 (by omega)).1 hik (hkx' _ w')
      have hEs:=hM.es
      have hkey:∀ (j:Nat) (e:MapEntry) (p:k.Den×v.Den),ms.toList[j]?=some e→es[j]?=some p→∀ (F':Nat→Prop) w',RV C.P k F' w' e.key p.1:=fun j e p h1 h2 F' w'=>RV_cmp kc.1 (hEs.2 j e p h1 h2).1
      obtain ⟨f,q1,q2⟩:=findKey_ok (F:=fun _=>True) (w:=w) (β:=v.Den) (xs:=es) (es:=ms.toList) hck0 hik (hkx' _ w) hEs.1 (fun j e p h1 h2=>hkey j e p h1 h2 _ w)
      have hget:(getObj (κ b).blk).run C.P w=.ok (.map ms clk) w:=by simp [getObj,Sem.run,hw]
      obtain ⟨ksz,knd,kent,kborn⟩:=hM
      have hlt:(κ b).blk<w.heap.size:=(Array.getElem?_eq_some_iff.1 hw).1
      have hz:∀ w',(zeroValue vid).run C.P w'=.ok zv w':=fun w'=>run_zeroValue' i1 i4
      have exL:∀ (a':Act) (w':World) (u:Value),a'.eval m=a.eval m→a'.eval x=a.eval x→(Instr.lookup ty (.map (some (κ b).blk)) (a.eval x) false).run C.P w'=.ok u w'→(execOp a'.eval oL).run C.P w'=.ok (.value u) w':=by
       intro a' w' u e1 e2 hr'
       simp only [execOp,hL,e1,e2,hmv,Sem.run_bind,hr',Result.andThen_ok,Sem.run_pure]
      have eqx:∀ q:k.Den,eqDen k x' q=true↔x'=q:=fun q=>eqDen_iff k kc.1 x' q
      rcases q2 with ⟨rfl,hne⟩ | ⟨j,e,p,g1,g2,g3,g4,rfl⟩
      ·let w1:World:={ w with heap:=w.heap.setIfInBounds (κ b).blk (.map (ms.push { key:=a.eval x,val:=zv,born:=clk }) (clk+1)) }
       have hw1:w1.heap[(κ b).blk]?=some (.map (ms.push { key:=a.eval x,val:=zv,born:=clk }) (clk+1)):=by simp [w1,hlt]
       obtain ⟨f',r1,r2⟩:=findKey_ok (F:=fun _=>True) (w:=w1) (β:=v.Den) (xs:=es++[(x',v.dflt)]) (es:=(ms.push { key:=a.eval x,val:=zv,born:=clk }).toList) hck0 hik (hkx' _ w1) (by simp;exact ksz) (fun j e p h1 h2=>by
        rw [Array.toList_push] at h1
        by_cases hj:j<ms.toList.length
        ·rw [List.getElem?_append_left hj] at h1
         rw [List.getElem?_append_left (by rw [←hEs.1];exact hj)] at h2
         exact hkey j e p h1 h2 _ w1
        ·rw [List.getElem?_append_right (by omega)] at h1
         rw [List.getElem?_append_right (by rw [←hEs.1];omega)] at h2
         rw [hEs.1] at h1
         cases hq:j - es.length with
         | zero=>
          rw [hq] at h1 h2
          simp only [List.getElem?_cons_zero,Option.some.injEq] at h1 h2
          subst h1;subst h2
          exact hkx' _ w1
         | succ q=>rw [hq] at h1;simp at h1)
       have hf':∃ i,f'=some (i,zv):=by
        rcases r2 with ⟨_,r3⟩ | ⟨j,e,p,s1,s2,s3,s4,rfl⟩
        ·have:=r3 (x',v.dflt) (by simp)
         rw [(eqx x').2 rfl] at this;cases this
        ·by_cases hj:j<es.length
         ·rw [List.getElem?_append_left hj] at s2
          have:=hne p (List.mem_of_getElem? s2)
          rw [s3] at this;cases this
         ·rw [Array.toList_push,List.getElem?_append_right (by rw [hEs.1];omega)] at s1
          rw [hEs.1] at s1
          cases hq:j - es.length with
          | zero=>rw [hq] at s1;simp at s1;subst s1;exact ⟨_,rfl⟩
          | succ q=>rw [hq] at s1;simp at s1
       refine ⟨zv,clk,w1,fun a' e1 e2=>⟨exL a' w zv e1 e2 (lookup_at hi hw (hck _ w) q1 (.inr ⟨rfl,hz w⟩)),exL a' w1 zv e1 e2 (lookup_at hi hw1 (hck _ w1) r1 (.inl hf')),?_⟩⟩
       simp only [execOp,hE,e1,e2,hmv,Instr.mapEntry,Sem.run_bind,run_underlying' hi,Result.andThen_ok,hget,hck,q1,hz,setObj_run hw,Sem.run_pure]
       rfl
      ·have hj:j<es.length:=(List.getElem?_eq_some_iff.1 g2).1
       have hjm:j<ms.size:=by omega
       have hej:ms[j]=e:=by
        have:=(List.getElem?_eq_some_iff.1 g1).2
        simpa using this
       obtain ⟨kk,w1,t1,t2,t3⟩:=keyStays_run C.P w e.key (a.eval x)
       have hw1:w1.heap[(κ b).blk]?=some (.map ms clk):=by rcases t3 with rfl | rfl<;>exact hw
       have hlt1:(κ b).blk<w1.heap.size:=(Array.getElem?_eq_some_iff.1 hw1).1
       have hold:((ms[j]?).map (·.key)).getD (a.eval x)=e.key:=by
        rw [Array.getElem?_eq_getElem hjm,hej];rfl
       have hborn:((ms[j]?).map (fun x=>(x.born:Int))).getD 0=(ms[j].born:Int):=by rw [Array.getElem?_eq_getElem hjm];rfl
       rw [Nat.zero_add] at q1
       have hxp:x'=p.1:=(eqx p.1).1 g3
       let w2:World:={ w1 with heap:=w1.heap.setIfInBounds (κ b).blk (.map (ms.modify j fun e=>{ e with key:=kk }) clk) }
       have hw2:w2.heap[(κ b).blk]?=some (.map (ms.modify j fun e=>{ e with key:=kk }) clk):=by simp [w2,hlt1]
       have hkk:∀ (F':Nat→Prop) w',RV C.P k F' w' kk p.1:=fun F' w'=>by
        rcases t2 with rfl | rfl
        ·rw [←hxp];exact hkx' F' w'
        ·exact hkey j e p g1 g2 F' w'
       have hmod:∀ i,(ms.modify j fun e=>{ e with key:=kk }).toList[i]?=if i=j then some { e with key:=kk } else ms.toList[i]?:=fun i=>by
        rw [Array.getElem?_toList,Array.getElem?_toList]
        rw [Array.getElem?_modify]
        by_cases hij:j=i
        ·subst hij;simp [hjm,hej]
        ·rw [if_neg hij,if_neg (fun e=>hij e.symm)]
       obtain ⟨f',r1,r2⟩:=findKey_ok (F:=fun _=>True) (w:=w2) (β:=v.Den) (xs:=es) (es:=(ms.modify j fun e=>{ e with key:=kk }).toList) hck0 hik (hkx' _ w2) (by simpa using ksz) (fun i e' p' h1 h2=>by
        rw [hmod] at h1
        split at h1
        ·rename_i hij
         subst hij
         rw [g2] at h2
         cases h1;cases h2
         exact hkk _ w2
        ·exact hkey i e' p' h1 h2 _ w2)
       have hf':∃ i,f'=some (i,e.val):=by
        rcases r2 with ⟨_,r3⟩ | ⟨i,e',p',s1,s2,s3,s4,rfl⟩
        ·have:=r3 p (List.mem_of_getElem? g2)
         rw [g3] at this;cases this
        ·have hij:i=j:=by
          rcases Nat.lt_trichotomy i j with h | h | h
          ·have:=g4 i p' h s2;rw [s3] at this;cases this
          ·exact h
          ·have:=s4 j p h g2;rw [g3] at this;cases this
         subst hij
         rw [hmod,if_pos rfl] at s1
         cases s1
         exact ⟨_,rfl⟩
       refine ⟨e.val,ms[j].born,w2,fun a' e1 e2=>⟨exL a' w e.val e1 e2 (lookup_at hi hw (hck _ w) q1 (.inl ⟨_,rfl⟩)),exL a' w2 e.val e1 e2 (lookup_at hi hw2 (hck _ w2) r1 (.inl hf')),?_⟩⟩
       simp only [execOp,hE,e1,e2,hmv,Instr.mapEntry,Sem.run_bind,run_underlying' hi,Result.andThen_ok,hget,hck,q1]
       rw [hold,t1]
       simp only [Result.andThen_ok,setObj_run hw1,Sem.run_pure,hborn]
       rfl
     ·cases h
    ·cases h
   ·cases h
  ·cases h
 ·cases h
end
end Go.Fer
namespace Go.Fer
open Go.RowKit
section
variable {C:Ctx} {T:Nat→Ty} {Φ:Nat→Option FC} {Ψ:Nat→Option KC} {s:AState} {o:Oper} {Q:Exit→Act→World→Prop} {ops:Array Oper}
theorem M.val_eq {α:Type} {m:M α} (h:m.Det) {d x:α} (hx:m.out x):x=m.val d:=by
 unfold M.val
 have he:∃ x,m.out x:=⟨x,hx⟩
 rw [dif_pos he]
 exact h _ _ hx he.choose_spec
theorem dPhi_ok (hΦ:CtrOk C.P Φ) (hΨ:PsiOk C.P C.ft Ψ):CtrOk C.P (dPhi Φ Ψ):=by
 intro k c h
 unfold dPhi at h
 split at h
 ·rename_i sc hsc
  split at h
  ·rename_i hd
   cases h
   have h:=hΨ k _ hsc
   obtain ⟨h1,h2⟩:FnSpec C.P k sc.ts sc.tr sc.sh∧(sc.det=true→∀ x,(sc.sh x).Det):=h
   exact h1.weaken fun x hs=>⟨hs,fun y hy=>M.val_eq (h2 hd x) hy⟩
  ·cases h
 ·cases h
 ·exact hΦ k c h
theorem reqs_ret {β:Type} {m:M β} {O:β→Prop}:∀ (l:List Prop),M.Ret (reqs l m) O→(∀ p∈l,p)∧M.Ret m O:=by
 intro l
 induction l with
 | nil=>intro h;exact ⟨fun p hp=>(by cases hp),h⟩
 | cons p l ih=>
  intro h
  simp only [reqs] at h
  rw [M.ret_req] at h
  obtain ⟨h1,h2⟩:=ih h.2
  refine ⟨fun q hq=>?_,h2⟩
  rcases List.mem_cons.1 hq with rfl | hq
  ·exact h.1
  ·exact h1 q hq
theorem condsU_spec {q1 q2:Bool} {ob c:Prop} (h1:q1=true→ob) (h2:q2=true→c) (h:∀ p∈condsU q1 q2 ob c,p):ob∧c:=by
 unfold condsU at h
 constructor
 ·cases q1 with
  | true=>exact h1 rfl
  | false=>exact h ob (by simp)
 ·cases q2 with
  | true=>exact h2 rfl
  | false=>exact h c (by simp)
theorem stepS_ok (hT:TabOk C.P T) (hΦ:CtrOk C.P Φ) (hd:dstOk o C.nt=true) {r:SR} (h:stepS C.ft T Φ ops s o=some r) (hc:∀ p∈r.cs,p) {a:Act} {w:World} (hr:Rel C s a w) {K:Act→World→Prop}
  (hK:∀ a' w',Rel C (r.upd s) a' w'→K a' w') :
  if Region.wanted o (yielded ops a.tmps) then o.wpIn (rnd C.r) 0 C.P a w K Q else (∀ f,o.about C.P w a.eval=some f→(rnd C.r).fn f)∧K (a.put o.dst undef) w:=by
 have hdst:∀ i,o.dst=some i→i<C.nt:=fun i hi=>by
  have:=hd
  simp only [dstOk,Bool.and_eq_true] at this
  have:=this.1
  rw [hi] at this
  simpa using this
 obtain ⟨κ,F,hrk⟩:=hr
 unfold stepS at h
 split at h
 ·cases h
 ·rename_i g hg
  rw [guardV_ok hrk hg]
  split at h
  ·cases h
  ·rename_i res hres
   split at h
   ·cases h
    simp only [Option.getD_none,if_true]
    obtain ⟨h1,h2⟩:=condsU_spec (fun hb=>(opV_ob hb).run s.blk res hres) (fun hb=>(opV_c hb).run s.blk res hres) hc
    exact Oper.wpIn_mono hK (opV_ok hT hΦ hd hres a w κ F Q hrk h1 h2)
   ·rename_i b
    split at h
    ·rename_i hwb
     cases h
     have hc:∀ p∈condsU (obF (opAV C.ft s.slot) o&&(cF (opAV C.ft s.slot) o&&!res.dv.isWhn)) true (b=true→res.ob∧(res.c∧(use res.dv).1)) True,p:=hc
     obtain ⟨h1,_⟩:=condsU_spec (fun hb=>by
      simp only [Bool.and_eq_true,Bool.not_eq_true'] at hb
      exact fun _=>⟨(opV_ob hb.1).run s.blk _ hres,(opV_c hb.2.1).run s.blk _ hres,use_free hb.2.2⟩) (fun _=>trivial) hc
     obtain ⟨ob,c,dv,wb⟩:=res
     simp only at hwb
     subst hwb
     cases b with
     | true=>
      simp only [Option.getD_some,if_true]
      obtain ⟨h1,h2,h3⟩:=h1 rfl
      refine Oper.wpIn_mono (fun a' w' hr'=>hK a' w' ?_) (opV_ok hT hΦ hd hres a w κ F Q hrk h1 h2)
      exact Rel.reslot (av':=.whn true (use dv).2) hr' hdst fun κ F v hv=>⟨fun _=>use_ok hv h3,fun h=>(by cases h)⟩
     | false=>
      simp only [Option.getD_some,Bool.false_eq_true,if_false]
      exact ⟨fun _ _=>trivial,hK _ _ ⟨κ,F,hrk.set (av:=.whn false (use dv).2) hdst ⟨fun h=>(by cases h),fun _=>rfl⟩⟩⟩
    ·cases h
theorem sufGo_spec (cl:List (List Nat)):∀ n,sufGo cl n≤n∧∀ j,sufGo cl n≤j→j<n→∀ i,i<j→i∈cl.getD j []
 | 0=>⟨Nat.le_refl _,fun j _ h=>by omega⟩
 | n+1=>by
  unfold sufGo
  split
  ·rename_i h
   obtain ⟨h1,h2⟩:=sufGo_spec cl n
   refine ⟨by omega,fun j hj hjn i hi=>?_⟩
   by_cases e:j=n
   ·subst e
    have:=List.all_eq_true.1 h i (List.mem_range.2 hi)
    simpa using this
   ·exact h2 j hj (by omega) i hi
  ·exact ⟨Nat.le_refl _,fun j h1 h2=>by omega⟩
theorem draw_suf {n:Nat} (hedge:edgesOk ops.toList=true) (hsuf:∀ j,n≤j→j<ops.size→∀ i,i<j→i∈(closure ops.toList).getD j []):∀ (k j fuel:Nat) (listed:Array Bool) (a:Act) (w:World),n≤j→j+k=ops.size→listed.size=ops.size→
  (∀ i,listed.getD i false=decide (i<j))→k≤fuel→wpOpsIn (rnd C.r) 0 C.P ops Q (List.range' j k) a w→wpAnyIn (rnd C.r) 0 C.P .any ops Q fuel listed a w:=by
 intro k
 induction k with
 | zero=>
  intro j fuel listed a w hnj hjk hsz hl hf h
  have hr:∀ i,i ∉ Region.ready .any ops listed:=fun i hi=>by
   rw [mem_ready] at hi
   obtain ⟨h0,o,ho,_⟩:=hi
   have hin:i<ops.size:=(Array.getElem?_eq_some_iff.1 ho).1
   have h1:=hl i
   rw [Array.getD_eq_getD_getElem?] at h0 h1
   rw [Array.getElem?_eq_getElem (by omega)] at h0 h1
   have h0:listed[i]'(by omega)=false:=h0
   have h1:listed[i]'(by omega)=decide (i<j):=h1
   rw [h0] at h1
   have:i<j:=by omega
   simp [this] at h1
  have hr0:Region.ready .any ops listed=[]:=List.eq_nil_iff_forall_not_mem.2 hr
  cases fuel with
  | zero=>exact ⟨hr0,h⟩
  | succ fuel=>exact ⟨fun _=>h,fun i hi=>absurd hi (hr i)⟩
 | succ k ih=>
  intro j fuel listed a w hnj hjk hsz hl hf h
  have hj:j<ops.size:=by omega
  cases fuel with
  | zero=>omega
  | succ fuel=>
   have hdown:∀ q o,ops[q]?=some o→listed.getD q false=true→∀ i∈direct o,listed.getD i false=true:=fun q o ho hq i hi=>by
    rw [hl] at hq ⊢
    have hq:q<j:=by simpa using hq
    have:=List.all_eq_true.1 hedge q (by simp;omega)
    rw [show ops.toList[q]?=some o by simpa using ho] at this
    have:=List.all_eq_true.1 this i hi
    simp only [decide_eq_true_eq] at this ⊢
    omega
   have hready:∀ i,i∈Region.ready .any ops listed↔i=j:=fun i=>by
    constructor
    ·intro hi
     rw [mem_ready] at hi
     obtain ⟨h0,o,ho,hafter⟩:=hi
     have hin:i<ops.size:=(Array.getElem?_eq_some_iff.1 ho).1
     have h0':listed.getD i false=false:=by
      rw [Array.getD_eq_getD_getElem?] at h0 ⊢
      rw [Array.getElem?_eq_getElem (by omega)] at h0 ⊢
      exact h0
     rw [hl] at h0'
     have hge:j≤i:=by simpa using h0'
     by_cases e:i=j
     ·exact e
     ·exfalso
      have hdir:∀ k∈direct o,listed.getD k false=true:=by
       intro k hk
       obtain ⟨e,he,hek⟩:=List.mem_filterMap.1 hk
       split at hek
       ·rename_i hb
        cases hek
        exact hafter e (by simpa using he) hb
       ·cases hek
      have hcl2:∀ k∈(closure ops.toList).getD i [],listed.getD k false=true∨k=i:=by
       intro k hk
       refine closure_ok (p:=fun j=>listed.getD j false=true∨j=i) ops.toList [] (fun j i hi=>by simp at hi) (fun j o' ho' k hk hj=>?_) i k hk (.inr rfl)
       have ho'':ops[j]?=some o':=by simpa using ho'
       rcases (by simpa using hj:listed.getD j false=true∨j=i) with hj | hj
       ·exact .inl (hdown j o' ho'' hj k hk)
       ·subst hj
        rw [ho] at ho''
        cases ho''
        exact .inl (hdir k hk)
      rcases hcl2 j (hsuf i (by omega) hin j (by omega)) with h | h
      ·rw [hl] at h;simp at h
      ·exact e h.symm
    ·rintro rfl
     rw [mem_ready]
     refine ⟨?_,ops[i],by simp [hj],fun e he hb=>?_⟩
     ·have h1:=hl i
      rw [Array.getD_eq_getD_getElem?] at h1 ⊢
      rw [Array.getElem?_eq_getElem (by omega)] at h1 ⊢
      rw [show decide (i<i)=false by simp] at h1
      exact h1
     ·have hin:e.on∈direct ops[i]:=List.mem_filterMap.2 ⟨e,by simpa using he,by simp [hb]⟩
      have:=List.all_eq_true.1 hedge i (by simp;omega)
      rw [show ops.toList[i]?=some ops[i] by simp] at this
      have:=List.all_eq_true.1 this e.on hin
      rw [hl]
      simpa using this
   refine ⟨fun hr=>?_,fun i hi=>?_⟩
   ·have:=(hready j).2 rfl
    rw [hr] at this;cases this
   ·obtain rfl:=(hready i).1 hi
    have hget:ops[i]?=some ops[i]:=by simp [hj]
    rw [List.range'_succ] at h
    simp only [wpOpsIn,hget] at h
    have next:∀ a w,wpOpsIn (rnd C.r) 0 C.P ops Q (List.range' (i+1) k) a w→wpAnyIn (rnd C.r) 0 C.P .any ops Q fuel (listed.setIfInBounds i true) a w:=fun a w hh=>by
     refine ih (i+1) fuel _ a w (by omega) (by omega) (by simpa using hsz) (fun q=>?_) (by omega) hh
     by_cases e:q=i
     ·subst e
      rw [Array.getD_eq_getD_getElem?,Array.getElem?_setIfInBounds_self_of_lt (by omega)]
      simp
     ·rw [getD_set_ne false (Ne.symm e),hl,decide_eq_decide]
      omega
    unfold wpOpIn
    rw [hget]
    simp only
    split
    ·rename_i hw
     rw [if_pos hw] at h
     exact Oper.wpIn_mono next h
    ·rename_i hw
     rw [if_neg hw] at h
     exact ⟨h.1,next _ _ h.2⟩
theorem draw_from {m:Nat} (hT:TabOk C.P T) (hΦ:CtrOk C.P Φ) (hd:∀ o∈ops.toList,dstOk o C.nt=true) {l:List SR} {s':AState} (hlen:l.length=ops.toList.length) (hs':s'=fold l s)
  (hstep:∀ i o,m≤i→ops.toList[i]?=some o→∃ r,l[i]?=some r∧stepS C.ft T Φ ops (fold (l.take i) s) o=some r) (hedge:edgesOk ops.toList=true) (hpair:pairsOk (closure ops.toList) l=true)
  (hc:∀ r∈l,∀ p∈r.cs,p) (hQ:∀ a' w',Rel C s' a' w'→Q .normal a' w'):∀ (fuel:Nat) (listed:Array Bool) (a:Act) (w:World),listed.size=ops.size→
   (∀ j o,ops[j]?=some o→listed.getD j false=true→∀ i∈direct o,listed.getD i false=true)→(∀ i,i<m→listed.getD i false=true)→((List.range ops.size).filter fun j=>!listed.getD j false).length≤fuel→
   Rel C (stA l s fun j=>listed.getD j false) a w→wpAnyIn (rnd C.r) 0 C.P .any ops Q fuel listed a w:=by
 have hedge':∀ j o,ops[j]?=some o→∀ i∈direct o,i<j:=by
  intro j o ho i hi
  have hj:j<ops.toList.length:=by
   have:=(Array.getElem?_eq_some_iff.1 ho).1;simpa using this
  have:=List.all_eq_true.1 hedge j (by simpa using hj)
  rw [show ops.toList[j]?=some o by simpa using ho] at this
  have:=List.all_eq_true.1 this i hi
  simpa using this
 have hpair':∀ i j x y,i<j→l[i]?=some x→l[j]?=some y→((closure ops.toList).getD j []).contains i=true∨x.apart y=true:=by
  intro i j x y hij hi hj
  have hjl:j<l.length:=(List.getElem?_eq_some_iff.1 hj).1
  have:=List.all_eq_true.1 hpair j (by simpa using hjl)
  have:=List.all_eq_true.1 this i (by simpa using hij)
  rw [hi,hj] at this
  simpa using this
 have hdone:∀ listed:Array Bool,listed.size=ops.size→Region.ready .any ops listed=[]→∀ j,j<ops.size→listed.getD j false=true:=by
  intro listed hsz hr j
  induction j using Nat.strongRecOn with
  | _ j ih=>
   intro hj
   cases hl:listed.getD j false with
   | true=>rfl
   | false=>
    exfalso
    have hmem:j∈Region.ready .any ops listed:=by
     rw [mem_ready]
     refine ⟨?_,ops[j],by simp [hj],fun e he hb=>?_⟩
     ·rw [Array.getD_eq_getD_getElem?] at hl ⊢
      rw [Array.getElem?_eq_getElem (by omega)] at hl ⊢
      exact hl
     ·have hin:e.on∈direct ops[j]:=List.mem_filterMap.2 ⟨e,by simpa using he,by simp [hb]⟩
      have hlt:=hedge' j ops[j] (by simp [hj]) e.on hin
      exact ih e.on hlt (by omega)
    rw [hr] at hmem
    cases hmem
 have hfin:∀ (listed:Array Bool) (a:Act) (w:World),listed.size=ops.size→Region.ready .any ops listed=[]→Rel C (stA l s fun j=>listed.getD j false) a w→Q .normal a w:=by
  intro listed a w hsz hr hrel
  have hall:=hdone listed hsz hr
  refine hQ a w ?_
  have:stA l s (fun j=>listed.getD j false)=s':=by
   rw [hs']
   unfold stA
   rw [List.filter_eq_self.2 fun p hp=>?_,enum_map]
   obtain ⟨_,h2⟩:=enum_mem hp
   have:=(List.getElem?_eq_some_iff.1 h2).1
   exact hall p.1 (by rw [Nat.sub_zero,hlen] at this;simpa using this)
  rw [←this]
  exact hrel
 intro fuel
 induction fuel with
 | zero=>
  intro listed a w hsz _ _ hfuel hrel
  have hr:Region.ready .any ops listed=[]:=by
   cases hr:Region.ready .any ops listed with
   | nil=>rfl
   | cons j js=>
    exfalso
    have hmem:j∈Region.ready .any ops listed:=by rw [hr];exact List.mem_cons_self
    rw [mem_ready] at hmem
    obtain ⟨h0,o,ho,_⟩:=hmem
    have hj:=(Array.getElem?_eq_some_iff.1 ho).1
    have:j∈(List.range ops.size).filter fun j=>!listed.getD j false:=by
     rw [List.mem_filter,List.mem_range]
     refine ⟨hj,?_⟩
     rw [Array.getD_eq_getD_getElem?] at h0 ⊢
     rw [Array.getElem?_eq_getElem (by omega)] at h0 ⊢
     simpa using h0
    have:=List.length_pos_of_mem this
    omega
  exact ⟨hr,hfin listed a w hsz hr hrel⟩
 | succ fuel ih=>
  intro listed a w hsz hdown hlow hfuel hrel
  refine ⟨fun hr=>hfin listed a w hsz hr hrel,fun i hi=>?_⟩
  rw [mem_ready] at hi
  obtain ⟨h0,o,ho,hafter⟩:=hi
  have hin:i<ops.size:=(Array.getElem?_eq_some_iff.1 ho).1
  have h0':listed.getD i false=false:=by
   rw [Array.getD_eq_getD_getElem?] at h0 ⊢
   rw [Array.getElem?_eq_getElem (by omega)] at h0 ⊢
   exact h0
  have hmem:o∈ops.toList:=by
   have:=(Array.getElem?_eq_some_iff.1 ho).2
   rw [←this];simp
  have hdir:∀ k∈direct o,listed.getD k false=true:=by
   intro k hk
   obtain ⟨e,he,hek⟩:=List.mem_filterMap.1 hk
   split at hek
   ·rename_i hb
    cases hek
    exact hafter e (by simpa using he) hb
   ·cases hek
  obtain ⟨r,hr,hst⟩:=hstep i o (Nat.le_of_not_lt fun h=>by rw [hlow i h] at h0';cases h0') (by simpa using ho)
  have hcl1:∀ j k,k∈(closure ops.toList).getD j []→listed.getD j false=true→listed.getD k false=true:=by
   refine closure_ok (p:=fun j=>listed.getD j false=true) ops.toList [] (fun j i hi=>by simp at hi) fun j o' ho' k hk hj=>?_
   exact hdown j o' (by simpa using ho') (by simpa using hj) k hk
  have hcl2:∀ k∈(closure ops.toList).getD i [],listed.getD k false=true∨k=i:=by
   intro k hk
   refine closure_ok (p:=fun j=>listed.getD j false=true∨j=i) ops.toList [] (fun j i hi=>by simp at hi) (fun j o' ho' k hk hj=>?_) i k hk (.inr rfl)
   have ho'':ops[j]?=some o':=by simpa using ho'
   rcases (by simpa using hj:listed.getD j false=true∨j=i) with hj | hj
   ·exact .inl (hdown j o' ho'' hj k hk)
   ·subst hj
    rw [ho] at ho''
    cases ho''
    exact .inl (hdir k hk)
  have hpre:∀ j x,j<i→l[j]?=some x→listed.getD j false=false→x.apart r=true:=by
   intro j x hj hx hl
   rcases hpair' j i x r hj hx hr with h | h
   ·rcases hcl2 j (by simpa using h) with h | h
    ·rw [hl] at h;cases h
    ·omega
   ·exact h
  have hpost:∀ j x,i<j→l[j]?=some x→listed.getD j false=true→r.apart x=true:=by
   intro j x hj hx hl
   rcases hpair' i j r x hj hr hx with h | h
   ·have:=hcl1 j i (by simpa using h) hl
    rw [h0'] at this;cases this
   ·exact h
  obtain ⟨k1,k2,k3⟩:=stA_step (s:=s) (f:=fun j=>listed.getD j false) hr h0' hpre hpost
  have hst':=stepS_congr hst k1 k2
  unfold wpOpIn
  rw [ho]
  refine stepS_ok hT hΦ (hd o hmem) hst' (hc r (List.mem_of_getElem? hr)) hrel fun a' w' hr'=>?_
  have hget:∀ j,(listed.setIfInBounds i true).getD j false=if j=i then true else listed.getD j false:=by
   intro j
   by_cases e:j=i
   ·subst e
    rw [if_pos rfl,Array.getD_eq_getD_getElem?,Array.getElem?_setIfInBounds_self_of_lt (by omega)]
    rfl
   ·rw [if_neg e,getD_set_ne false (Ne.symm e)]
  refine ih _ a' w' (by simpa using hsz) (fun j o' ho' hj k hk=>?_) (fun q hq=>by rw [hget];split;rfl;exact hlow q hq) ?_ ?_
  ·rw [hget] at hj ⊢
   split
   ·rfl
   ·split at hj
    ·rename_i e
     subst e
     rw [ho] at ho'
     cases ho'
     exact hdir k hk
    ·exact hdown j o' ho' hj k hk
  ·have hlt:((List.range ops.size).filter fun j=>!(listed.setIfInBounds i true).getD j false).length<((List.range ops.size).filter fun j=>!listed.getD j false).length:=by
    have e1:(List.range ops.size).filter (fun j=>!(listed.setIfInBounds i true).getD j false)=((List.range ops.size).filter fun j=>!listed.getD j false).filter fun j=>decide (j≠i):=by
     rw [List.filter_filter]
     apply List.filter_congr
     intro j _
     rw [hget]
     by_cases e:j=i<;>simp [e]
    rw [e1]
    have hmem':i∈(List.range ops.size).filter fun j=>!listed.getD j false:=by
     rw [List.mem_filter,List.mem_range]
     exact ⟨hin,by rw [h0'];rfl⟩
    exact List.length_filter_lt_length_iff_exists.2 ⟨i,hmem',by simp⟩
   omega
  ·have:stA l s (fun j=>(listed.setIfInBounds i true).getD j false)=r.upd (stA l s fun j=>listed.getD j false):=by
    rw [←k3]
    congr 1
    funext j
    exact hget j
   rw [this]
   exact hr'
theorem draw_any (hT:TabOk C.P T) (hΦ:CtrOk C.P Φ) (hd:∀ o∈ops.toList,dstOk o C.nt=true) {l:List SR} {s':AState} (hs:steps C.ft T Φ ops ops.toList s=some (l,s')) (hok:drawOk ops.toList l=true)
  (hc:∀ r∈l,∀ p∈r.cs,p) (hQ:∀ a' w',Rel C s' a' w'→Q .normal a' w'):∀ (fuel:Nat) (listed:Array Bool) (a:Act) (w:World),listed.size=ops.size→
   (∀ j o,ops[j]?=some o→listed.getD j false=true→∀ i∈direct o,listed.getD i false=true)→((List.range ops.size).filter fun j=>!listed.getD j false).length≤fuel→
   Rel C (stA l s fun j=>listed.getD j false) a w→wpAnyIn (rnd C.r) 0 C.P .any ops Q fuel listed a w:=by
 obtain ⟨hlen,hs',hstep⟩:=steps_spec _ _ hs
 simp only [drawOk,Bool.and_eq_true] at hok
 intro fuel listed a w h1 h2 h3 h4
 exact draw_from (m:=0) hT hΦ hd hlen hs' (fun i o _ ho=>hstep i o ho) hok.1 hok.2 hc hQ fuel listed a w h1 h2 (fun _ h=>by omega) h3 h4
def FL (n:Nat) (l b e x:Bool) (listed:Array Bool):Prop:=∀ i,listed.getD i false=(decide (i<n)||(l&&decide (i=n))||(b&&decide (i=n+1))||(e&&decide (i=n+2))||(x&&decide (i=n+3)))
def entA (a:Act) (dL dB d1 d2:Nat) (u vB vE vX:Value) (l b e x:Bool):Act:=
 let a1:=if l=true then a.put (some dL) u else a
 let a2:=if b=true then a1.put (some dB) vB else a1
 let a3:=if e=true then a2.put (some d1) vE else a2
 if x=true then a3.put (some d2) vX else a3
theorem put_size (a:Act) (d:Option Nat) (v:Value):(a.put d v).tmps.size=a.tmps.size:=by cases d<;>simp [Act.put]
theorem entA_size (a:Act) (dL dB d1 d2:Nat) (u vB vE vX:Value) (l b e x:Bool):(entA a dL dB d1 d2 u vB vE vX l b e x).tmps.size=a.tmps.size:=by
 unfold entA
 cases l<;>cases b<;>cases e<;>cases x<;>simp [put_size]
theorem entA_eval {a:Act} {dL dB d1 d2:Nat} {u vB vE vX:Value} {l b e x:Bool} {y:Operand} (h1:y≠.tmp dL) (h2:y≠.tmp dB) (h3:y≠.tmp d1) (h4:y≠.tmp d2):(entA a dL dB d1 d2 u vB vE vX l b e x).eval y=a.eval y:=by
 unfold entA
 cases l<;>cases b<;>cases e<;>cases x<;>simp [eval_put_ne,h1,h2,h3,h4]
theorem oper_value_of {o:Oper} {a:Act} {w w':World} {K:Act→World→Prop} {v:Value} (hd:∀ c,o.op≠.defer c) (h:(execOp a.eval o).run C.P w=.ok (.value v) w') (hk:o.wpIn (rnd C.r) 0 C.P a w K Q):K (a.put o.dst v) w':=by
 have:=hk.2
 rw [semAt_rnd hd,h] at this
 exact this
theorem draw_ent {n:Nat} (hsz5:ops.size=n+5) (hedge:edgesOk ops.toList=true) {oL oB oE oX oS:Oper} (gL:ops[n]?=some oL) (gB:ops[n+1]?=some oB) (gE:ops[n+2]?=some oE) (gX:ops[n+3]?=some oX) (gS:ops[n+4]?=some oS)
  (wL:oL.guard=none) (wB:oB.guard=none) (wE':oE.guard=none) (wX:oX.guard=none) (wS:oS.guard=none) (hdL:∀ c,oL.op≠.defer c) (hdB:∀ c,oB.op≠.defer c) (hdE:∀ c,oE.op≠.defer c) (hdX:∀ c,oX.op≠.defer c)
  (hpre:∀ q,q<5→∀ i,i<n→i∈(closure ops.toList).getD (n+q) []) (hB1:n∈(closure ops.toList).getD (n+1) []) (hX1:n+2∈(closure ops.toList).getD (n+3) []) (hS1:∀ q,q<4→n+q∈(closure ops.toList).getD (n+4) [])
  (hE2:∀ i∈direct oE,i<n) (hX2:∀ i∈direct oX,i<n∨i=n+2)
  {dL dB d1 d2:Nat} (tL:oL.dst=some dL) (tB:oB.dst=some dB) (tE:oE.dst=some d1) (tX:oX.dst=some d2) (_n1:dL≠dB) (n2:dL≠d1) (n3:dL≠d2) (n4:dB≠d1) (n5:dB≠d2)
  {a:Act} {w wE:World} {u vB vE vX:Value}
  (rL:∀ b e x,(execOp (entA a dL dB d1 d2 u vB vE vX false b e x).eval oL).run C.P (if e=true then wE else w)=.ok (.value u) (if e=true then wE else w))
  (rB:∀ e x,(execOp (entA a dL dB d1 d2 u vB vE vX true false e x).eval oB).run C.P (if e=true then wE else w)=.ok (.value vB) (if e=true then wE else w))
  (rE:∀ l b x,(execOp (entA a dL dB d1 d2 u vB vE vX l b false x).eval oE).run C.P w=.ok (.value vE) wE)
  (rX:∀ l b,(execOp (entA a dL dB d1 d2 u vB vE vX l b true false).eval oX).run C.P wE=.ok (.value vX) wE)
  (h:wpOpsIn (rnd C.r) 0 C.P ops Q (List.range' n 5) a w):∀ (fuel:Nat) (listed:Array Bool),listed.size=ops.size→(∀ i,listed.getD i false=decide (i<n))→5≤fuel→wpAnyIn (rnd C.r) 0 C.P .any ops Q fuel listed a w:=by
 let A:=entA a dL dB d1 d2 u vB vE vX
 let W:=fun e:Bool=>if e=true then wE else w
 have wt:∀ {o:Oper},o.guard=none→∀ a':Act,Region.wanted o (yielded ops a'.tmps)=true:=fun h a'=>by unfold Region.wanted;rw [h]
 have hS:oS.wpIn (rnd C.r) 0 C.P (A true true true true) wE (fun a' w'=>Q .normal a' w') Q:=by
  have e5:List.range' n 5=[n,n+1,n+2,n+3,n+4]:=rfl
  rw [e5] at h
  simp only [wpOpsIn,gL,gB,gE,gX,gS,wt wL,wt wB,wt wE',wt wX,wt wS,if_true] at h
  have h1:=oper_value_of (a:=A false false false false) (w:=w) hdL (rL false false false) h
  rw [tL] at h1
  have h2:=oper_value_of (a:=A true false false false) (w:=w) hdB (rB false false) h1
  rw [tB] at h2
  have h3:=oper_value_of (a:=A true true false false) (w:=w) hdE (rE true true false) h2
  rw [tE] at h3
  have h4:=oper_value_of (a:=A true true true false) (w:=wE) hdX (rX true true) h3
  rw [tX] at h4
  exact h4
 have hlisted:∀ {l b e x:Bool} {listed:Array Bool},FL n l b e x listed→(b=true→l=true)→(x=true→e=true)→∀ q o,ops[q]?=some o→listed.getD q false=true→∀ i∈direct o,listed.getD i false=true:=by
  intro l b e x listed hF hb hx q o ho hq i hi
  have hql:q<ops.size:=(Array.getElem?_eq_some_iff.1 ho).1
  have hiq:i<q:=by
   have:=List.all_eq_true.1 hedge q (by simp;omega)
   rw [show ops.toList[q]?=some o by simpa using ho] at this
   have:=List.all_eq_true.1 this i hi
   simpa using this
  rw [hF] at hq ⊢
  simp only [Bool.or_eq_true,Bool.and_eq_true,decide_eq_true_eq] at hq ⊢
  rcases hq with (((hq | ⟨h1,hq⟩) | ⟨h1,hq⟩) | ⟨h1,hq⟩) | ⟨h1,hq⟩
  ·exact .inl (.inl (.inl (.inl (by omega))))
  ·exact .inl (.inl (.inl (.inl (by omega))))
  ·rcases Nat.lt_or_ge i n with h | h
   ·exact .inl (.inl (.inl (.inl h)))
   ·exact .inl (.inl (.inl (.inr ⟨hb h1,by omega⟩)))
  ·subst hq
   rw [gE] at ho;cases ho
   exact .inl (.inl (.inl (.inl (hE2 i hi))))
  ·subst hq
   rw [gX] at ho;cases ho
   rcases hX2 i hi with h | h
   ·exact .inl (.inl (.inl (.inl h)))
   ·exact .inl (.inr ⟨hx h1,h⟩)
 have notl:∀ {listed:Array Bool} {i:Nat},listed.size=ops.size→i<ops.size→(listed[i]?.getD true=false↔listed.getD i false=false):=by
  intro listed i hsz hi
  rw [Array.getD_eq_getD_getElem?,Array.getElem?_eq_getElem (by omega)]
  rfl
 have rdy:∀ {l b e x:Bool} {listed:Array Bool},FL n l b e x listed→(b=true→l=true)→(x=true→e=true)→listed.size=ops.size→∀ i∈Region.ready .any ops listed,
   (i=n∧l=false)∨(i=n+1∧l=true∧b=false)∨(i=n+2∧e=false)∨(i=n+3∧e=true∧x=false)∨(i=n+4∧l=true∧b=true∧e=true∧x=true):=by
  intro l b e x listed hF hb hx hsz i hi
  have hdown:=hlisted hF hb hx
  rw [mem_ready] at hi
  obtain ⟨h0,o,ho,hafter⟩:=hi
  have hin:i<ops.size:=(Array.getElem?_eq_some_iff.1 ho).1
  have h0:listed.getD i false=false:=by
   rw [Array.getD_eq_getD_getElem?] at h0 ⊢
   rw [Array.getElem?_eq_getElem (by omega)] at h0 ⊢
   exact h0
  have hdir:∀ k∈direct o,listed.getD k false=true:=by
   intro k hk
   obtain ⟨e,he,hek⟩:=List.mem_filterMap.1 hk
   split at hek
   ·rename_i hb
    cases hek
    exact hafter e (by simpa using he) hb
   ·cases hek
  have hcl2:∀ k∈(closure ops.toList).getD i [],listed.getD k false=true∨k=i:=by
   intro k hk
   refine closure_ok (p:=fun j=>listed.getD j false=true∨j=i) ops.toList [] (fun j i hi=>by simp at hi) (fun j o' ho' k hk hj=>?_) i k hk (.inr rfl)
   have ho'':ops[j]?=some o':=by simpa using ho'
   rcases (by simpa using hj:listed.getD j false=true∨j=i) with hj | hj
   ·exact .inl (hdown j o' ho'' hj k hk)
   ·subst hj
    rw [ho] at ho''
    cases ho''
    exact .inl (hdir k hk)
  rw [hF] at h0
  simp only [Bool.or_eq_false_iff,Bool.and_eq_false_iff,decide_eq_false_iff_not] at h0
  obtain ⟨⟨⟨⟨k0,k1⟩,k2⟩,k3⟩,k4⟩:=h0
  have hge:n≤i:=by omega
  have cases5:i=n∨i=n+1∨i=n+2∨i=n+3∨i=n+4:=by omega
  have flag:∀ q,q<4→n+q∈(closure ops.toList).getD i []→n+q≠i→(if q=0 then l else if q=1 then b else if q=2 then e else x)=true:=by
   intro q hq hm hne
   rcases hcl2 _ hm with h | h
   ·rw [hF] at h
    simp only [Bool.or_eq_true,Bool.and_eq_true,decide_eq_true_eq] at h
    rcases h with (((h | ⟨h1,h⟩) | ⟨h1,h⟩) | ⟨h1,h⟩) | ⟨h1,h⟩
    ·omega
    ·have:q=0:=by omega
     subst this;exact h1
    ·have:q=1:=by omega
     subst this;exact h1
    ·have:q=2:=by omega
     subst this;exact h1
    ·have:q=3:=by omega
     subst this;exact h1
   ·exact absurd h hne
  rcases cases5 with rfl | rfl | rfl | rfl | rfl
  ·exact .inl ⟨rfl,by rcases k1 with h | h;exact h;exact absurd rfl h⟩
  ·exact .inr (.inl ⟨rfl,flag 0 (by omega) hB1 (by omega),by rcases k2 with h | h;exact h;exact absurd rfl h⟩)
  ·exact .inr (.inr (.inl ⟨rfl,by rcases k3 with h | h;exact h;exact absurd rfl h⟩))
  ·exact .inr (.inr (.inr (.inl ⟨rfl,flag 2 (by omega) hX1 (by omega),by rcases k4 with h | h;exact h;exact absurd rfl h⟩)))
  ·exact .inr (.inr (.inr (.inr ⟨rfl,flag 0 (by omega) (hS1 0 (by omega)) (by omega),flag 1 (by omega) (hS1 1 (by omega)) (by omega),flag 2 (by omega) (hS1 2 (by omega)) (by omega),flag 3 (by omega) (hS1 3 (by omega)) (by omega)⟩)))
 have some_ready:∀ {l b e x:Bool} {listed:Array Bool},FL n l b e x listed→(b=true→l=true)→(x=true→e=true)→listed.size=ops.size→Region.ready .any ops listed≠[]:=by
  intro l b e x listed hF hb hx hsz hnil
  have mk:∀ i o,ops[i]?=some o→listed.getD i false=false→(∀ k∈direct o,listed.getD k false=true)→False:=by
   intro i o ho h0 hd
   have hin:i<ops.size:=(Array.getElem?_eq_some_iff.1 ho).1
   have:i∈Region.ready .any ops listed:=by
    rw [mem_ready]
    refine ⟨?_,o,ho,fun e he hb=>hd e.on (List.mem_filterMap.2 ⟨e,by simpa using he,by simp [hb]⟩)⟩
    rw [Array.getD_eq_getD_getElem?] at h0 ⊢
    rw [Array.getElem?_eq_getElem (by omega)] at h0 ⊢
    exact h0
   rw [hnil] at this
   cases this
  have lt:∀ q o,ops[q]?=some o→∀ i∈direct o,i<q:=by
   intro q o ho i hi
   have hql:q<ops.size:=(Array.getElem?_eq_some_iff.1 ho).1
   have:=List.all_eq_true.1 hedge q (by simp;omega)
   rw [show ops.toList[q]?=some o by simpa using ho] at this
   have:=List.all_eq_true.1 this i hi
   simpa using this
  cases l with
  | false=>
   have hbf:b=false:=by cases b;rfl;exact absurd (hb rfl) (by simp)
   subst hbf
   exact mk n oL gL (by rw [hF];simp) fun k hk=>by rw [hF];have:=lt _ _ gL k hk;simp;omega
  | true=>
   cases b with
   | false=>exact mk (n+1) oB gB (by rw [hF];simp) fun k hk=>by rw [hF];have:=lt _ _ gB k hk;simp;omega
   | true=>
    cases e with
    | false=>
     have hxf:x=false:=by cases x;rfl;exact absurd (hx rfl) (by simp)
     subst hxf
     exact mk (n+2) oE gE (by rw [hF];simp) fun k hk=>by rw [hF];have:=hE2 k hk;simp;omega
    | true=>
     cases x with
     | false=>exact mk (n+3) oX gX (by rw [hF];simp) fun k hk=>by rw [hF];have:=hX2 k hk;simp;omega
     | true=>exact mk (n+4) oS gS (by rw [hF];simp) fun k hk=>by rw [hF];have:=lt _ _ gS k hk;simp;omega
 have nextF:∀ {listed:Array Bool} (i:Nat),listed.size=ops.size→i<ops.size→∀ q,(listed.setIfInBounds i true).getD q false=(listed.getD q false||decide (q=i)):=by
  intro listed i hsz hi q
  by_cases e:q=i
  ·subst e
   rw [Array.getD_eq_getD_getElem?,Array.getElem?_setIfInBounds_self_of_lt (by omega)]
   simp
  ·rw [getD_set_ne false (Ne.symm e)]
   simp [e]
 let G:=fun (l b e x:Bool)=>∀ (fuel:Nat) (listed:Array Bool),FL n l b e x listed→listed.size=ops.size→5≤fuel+(l.toNat+b.toNat+e.toNat+x.toNat)→wpAnyIn (rnd C.r) 0 C.P .any ops Q fuel listed (A l b e x) (W e)
 have step:∀ l b e x,(b=true→l=true)→(x=true→e=true)→(l=false→G true b e x)→(l=true→b=false→G l true e x)→(e=false→G l b true x)→(e=true→x=false→G l b e true)→G l b e x:=by
  intro l b e x hb hx s1 s2 s3 s4 fuel listed hF hsz hfu
  have hc4:l.toNat≤1∧b.toNat≤1∧e.toNat≤1∧x.toNat≤1:=⟨Bool.toNat_le l,Bool.toNat_le b,Bool.toNat_le e,Bool.toNat_le x⟩
  cases fuel with
  | zero=>omega
  | succ fuel=>
   refine ⟨fun hr=>absurd hr (some_ready hF hb hx hsz),fun i hi=>?_⟩
   rcases rdy hF hb hx hsz i hi with ⟨rfl,h1⟩ | ⟨rfl,h1,h2⟩ | ⟨rfl,h1⟩ | ⟨rfl,h1,h2⟩ | ⟨rfl,h1,h2,h3,h4⟩
   ·subst h1
    have hbf:b=false:=by cases b;rfl;exact absurd (hb rfl) (by simp)
    subst hbf
    unfold wpOpIn
    simp only [gL,wt wL,if_true]
    refine oper_value hdL (rL false e x) ?_
    rw [tL]
    have ea:(A false false e x).put (some dL) u=A true false e x:=by
     simp only [A,entA]
     cases e<;>cases x<;>simp [put_comm _ n2.symm,put_comm _ n3.symm]
    show wpAnyIn _ _ _ _ _ _ _ _ ((A false false e x).put (some dL) u) (W e)
    rw [ea]
    refine s1 rfl fuel _ (fun q=>?_) (by simpa using hsz) (by simp at hfu ⊢;omega)
    rw [nextF i hsz (by omega),hF]
    by_cases hq:q=i<;>simp [hq]
   ·subst h1;subst h2
    unfold wpOpIn
    simp only [gB,wt wB,if_true]
    refine oper_value hdB (rB e x) ?_
    rw [tB]
    have ea:(A true false e x).put (some dB) vB=A true true e x:=by
     simp only [A,entA]
     cases e<;>cases x<;>simp [put_comm _ n4.symm,put_comm _ n5.symm]
    show wpAnyIn _ _ _ _ _ _ _ _ ((A true false e x).put (some dB) vB) (W e)
    rw [ea]
    refine s2 rfl rfl fuel _ (fun q=>?_) (by simpa using hsz) (by simp at hfu ⊢;omega)
    rw [nextF (n+1) hsz (by omega),hF]
    by_cases hq:q=n+1<;>simp [hq]
   ·subst h1
    have hxf:x=false:=by cases x;rfl;exact absurd (hx rfl) (by simp)
    subst hxf
    unfold wpOpIn
    simp only [gE,wt wE',if_true]
    refine oper_value hdE (rE l b false) ?_
    rw [tE]
    show wpAnyIn _ _ _ _ _ _ _ _ (A l b true false) (W true)
    refine s3 rfl fuel _ (fun q=>?_) (by simpa using hsz) (by simp at hfu ⊢;omega)
    rw [nextF (n+2) hsz (by omega),hF]
    by_cases hq:q=n+2<;>simp [hq]
   ·subst h1;subst h2
    unfold wpOpIn
    simp only [gX,wt wX,if_true]
    refine oper_value hdX (rX l b) ?_
    rw [tX]
    show wpAnyIn _ _ _ _ _ _ _ _ (A l b true true) (W true)
    refine s4 rfl rfl fuel _ (fun q=>?_) (by simpa using hsz) (by simp at hfu ⊢;omega)
    rw [nextF (n+3) hsz (by omega),hF]
    by_cases hq:q=n+3<;>simp [hq]
   ·subst h1;subst h2;subst h3;subst h4
    unfold wpOpIn
    simp only [gS,wt wS,if_true]
    refine Oper.wpIn_mono (fun a' w' hq=>?_) hS
    have hall:∀ i,(listed.setIfInBounds (n+4) true).getD i false=decide (i<n+5):=fun i=>by
     rw [nextF (n+4) hsz (by omega),hF,Bool.eq_iff_iff]
     simp only [Bool.or_eq_true,Bool.and_eq_true,decide_eq_true_eq,true_and]
     omega
    have hr:∀ i,i ∉ Region.ready .any ops (listed.setIfInBounds (n+4) true):=fun i hi=>by
     rw [mem_ready] at hi
     obtain ⟨h0,o,ho,_⟩:=hi
     have hin:i<ops.size:=(Array.getElem?_eq_some_iff.1 ho).1
     have h1:=hall i
     have hs2:(listed.setIfInBounds (n+4) true).size=ops.size:=by simpa using hsz
     rw [Array.getD_eq_getD_getElem?] at h0 h1
     rw [Array.getElem?_eq_getElem (by omega)] at h0 h1
     have h0:(listed.setIfInBounds (n+4) true)[i]'(by omega)=false:=h0
     have h1:(listed.setIfInBounds (n+4) true)[i]'(by omega)=decide (i<n+5):=h1
     rw [h0] at h1
     have:i<n+5:=by omega
     simp [this] at h1
    have hr0:Region.ready .any ops (listed.setIfInBounds (n+4) true)=[]:=List.eq_nil_iff_forall_not_mem.2 hr
    cases fuel with
    | zero=>exact ⟨hr0,hq⟩
    | succ fuel=>exact ⟨fun _=>hq,fun i hi=>absurd hi (hr i)⟩
 have f:∀ {p:Prop},(true:Bool)=false→p:=fun h=>by cases h
 have f':∀ {p:Prop},(false:Bool)=true→p:=fun h=>by cases h
 have g1111:G true true true true:=step _ _ _ _ (fun _=>rfl) (fun _=>rfl) f (fun _=>f) f (fun _=>f)
 have g1110:G true true true false:=step _ _ _ _ (fun _=>rfl) (fun _=>rfl) f (fun _=>f) f (fun _ _=>g1111)
 have g1100:G true true false false:=step _ _ _ _ (fun _=>rfl) f' f (fun _=>f) (fun _=>g1110) f'
 have g1011:G true false true true:=step _ _ _ _ (fun _=>rfl) (fun _=>rfl) f (fun _ _=>g1111) f (fun _=>f)
 have g1010:G true false true false:=step _ _ _ _ (fun _=>rfl) (fun _=>rfl) f (fun _ _=>g1110) f (fun _ _=>g1011)
 have g1000:G true false false false:=step _ _ _ _ (fun _=>rfl) f' f (fun _ _=>g1100) (fun _=>g1010) f'
 have g0011:G false false true true:=step _ _ _ _ f' (fun _=>rfl) (fun _=>g1011) f' f (fun _=>f)
 have g0010:G false false true false:=step _ _ _ _ f' (fun _=>rfl) (fun _=>g1010) f' f (fun _ _=>g0011)
 have g0000:G false false false false:=step _ _ _ _ f' f' (fun _=>g1000) f' (fun _=>g0010) f'
 intro fuel listed hsz hl hfu
 exact g0000 fuel listed (fun i=>by rw [hl];simp) hsz (by simpa using hfu)
theorem draw_pre {n:Nat} (hn:n≤ops.size) (hT:TabOk C.P T) (hΦ:CtrOk C.P Φ) (hd:∀ o∈ops.toList,dstOk o C.nt=true) {l:List SR} {s':AState} (hs:steps C.ft T Φ ops (ops.toList.take n) s=some (l,s')) (hok:drawOk (ops.toList.take n) l=true) (hsuf:∀ j,n≤j→j<ops.size→∀ i,i<n→i∈(closure ops.toList).getD j [])
  (hc:∀ r∈l,∀ p∈r.cs,p) (hQ:∀ (fuel:Nat) (listed:Array Bool) a' w',listed.size=ops.size→(∀ i,listed.getD i false=decide (i<n))→ops.size - n≤fuel→Rel C s' a' w'→wpAnyIn (rnd C.r) 0 C.P .any ops Q fuel listed a' w'):∀ (fuel:Nat) (listed:Array Bool) (a:Act) (w:World),listed.size=ops.size→
   (∀ j o,ops[j]?=some o→listed.getD j false=true→∀ i∈direct o,listed.getD i false=true)→(∀ i,n≤i→listed.getD i false=false)→((List.range ops.size).filter fun j=>!listed.getD j false).length≤fuel→
   Rel C (stA l s fun j=>listed.getD j false) a w→wpAnyIn (rnd C.r) 0 C.P .any ops Q fuel listed a w:=by
 obtain ⟨hlen,hs',hstep⟩:=steps_spec _ _ hs
 have hLn:(ops.toList.take n).length=n:=by simp;omega
 have hL:∀ i,i<n→(ops.toList.take n)[i]?=ops[i]?:=fun i hi=>by
  rw [List.getElem?_take,if_pos hi,Array.getElem?_toList]
 simp only [drawOk,Bool.and_eq_true] at hok
 obtain ⟨hedge,hpair⟩:=hok
 have hedge':∀ j o,j<n→ops[j]?=some o→∀ i∈direct o,i<j:=by
  intro j o hjn ho i hi
  have:=List.all_eq_true.1 hedge j (by rw [hLn];simpa using hjn)
  rw [hL j hjn,ho] at this
  have:=List.all_eq_true.1 this i hi
  simpa using this
 have hpair':∀ i j x y,i<j→l[i]?=some x→l[j]?=some y→((closure (ops.toList.take n)).getD j []).contains i=true∨x.apart y=true:=by
  intro i j x y hij hi hj
  have hjl:j<l.length:=(List.getElem?_eq_some_iff.1 hj).1
  have:=List.all_eq_true.1 hpair j (by simpa using hjl)
  have:=List.all_eq_true.1 this i (by simpa using hij)
  rw [hi,hj] at this
  simpa using this
 intro fuel
 induction fuel with
 | zero=>
  intro listed a w hsz _ hno hfuel hrel
  have hall:∀ i,listed.getD i false=decide (i<n):=fun i=>by
   by_cases hi:i<n
   ·cases hl:listed.getD i false with
    | true=>simp [hi]
    | false=>
     exfalso
     have:i∈(List.range ops.size).filter fun j=>!listed.getD j false:=by
      rw [List.mem_filter,List.mem_range]
      exact ⟨by omega,by rw [hl];rfl⟩
     have:=List.length_pos_of_mem this
     omega
   ·rw [hno i (by omega)];simp [hi]
  refine hQ 0 listed a w hsz hall ?_ ?_
  ·by_cases hlt:n<ops.size
   ·have:n∈(List.range ops.size).filter fun j=>!listed.getD j false:=by
     rw [List.mem_filter,List.mem_range]
     exact ⟨hlt,by rw [hno n (Nat.le_refl _)];rfl⟩
    have:=List.length_pos_of_mem this
    omega
   ·omega
  ·have:stA l s (fun j=>listed.getD j false)=s':=by
    rw [hs']
    unfold stA
    rw [List.filter_eq_self.2 fun p hp=>?_,enum_map]
    obtain ⟨_,h2⟩:=enum_mem hp
    have:=(List.getElem?_eq_some_iff.1 h2).1
    show listed.getD p.1 false=true
    rw [hall]
    have:p.1<n:=by rw [Nat.sub_zero,hlen,hLn] at this;exact this
    simpa using this
   rw [←this]
   exact hrel
 | succ fuel ih=>
  intro listed a w hsz hdown hno hfuel hrel
  by_cases hdone:∀ i,i<n→listed.getD i false=true
  ·have hall:∀ i,listed.getD i false=decide (i<n):=fun i=>by
    by_cases hi:i<n
    ·rw [hdone i hi];simp [hi]
    ·rw [hno i (by omega)];simp [hi]
   refine hQ (fuel+1) listed a w hsz hall ?_ ?_
   ·have h1:(List.range' n (ops.size - n)).length≤((List.range ops.size).filter fun j=>!listed.getD j false).length:=by
     have e:(List.range ops.size).filter (fun j=>!listed.getD j false)=List.range' n (ops.size - n):=by
      have h2:(List.range ops.size).filter (fun j=>!listed.getD j false)=(List.range ops.size).filter fun j=>decide (n≤j):=List.filter_congr fun j _=>by
       rw [hall]
       by_cases h:j<n
       ·have:¬n≤j:=by omega
        simp [h,this]
       ·have:n≤j:=by omega
        simp [h,this]
      rw [h2]
      have h3:List.range ops.size=List.range n++List.range' n (ops.size - n):=by
       rw [List.range_eq_range',List.range_eq_range']
       have:=(List.range'_append (s:=0) (m:=n) (n:=ops.size - n) (step:=1))
       rw [Nat.one_mul,Nat.zero_add] at this
       rw [this]
       congr 1
       omega
      rw [h3,List.filter_append,List.filter_eq_nil_iff.2 fun j hj=>by have:=List.mem_range.1 hj;simp;omega,List.filter_eq_self.2 fun j hj=>by have:=List.mem_range'_1.1 hj;simp;omega]
      rfl
     rw [e]
     exact Nat.le_refl _
    rw [List.length_range'] at h1
    omega
   ·have:stA l s (fun j=>listed.getD j false)=s':=by
     rw [hs']
     unfold stA
     rw [List.filter_eq_self.2 fun p hp=>?_,enum_map]
     obtain ⟨_,h2⟩:=enum_mem hp
     have:=(List.getElem?_eq_some_iff.1 h2).1
     show listed.getD p.1 false=true
     rw [hall]
     have:p.1<n:=by rw [Nat.sub_zero,hlen,hLn] at this;exact this
     simpa using this
    rw [←this]
    exact hrel
  ·refine ⟨fun hr=>absurd ?_ hdone,fun i hi=>?_⟩
   ·intro j
    induction j using Nat.strongRecOn with
    | _ j ihj=>
     intro hj
     cases hl:listed.getD j false with
     | true=>rfl
     | false=>
      exfalso
      have hmem:j∈Region.ready .any ops listed:=by
       rw [mem_ready]
       refine ⟨?_,ops[j],by simp,fun e he hb=>?_⟩
       ·rw [Array.getD_eq_getD_getElem?] at hl ⊢
        rw [Array.getElem?_eq_getElem (by omega)] at hl ⊢
        exact hl
       ·have hin:e.on∈direct ops[j]:=List.mem_filterMap.2 ⟨e,by simpa using he,by simp [hb]⟩
        have hlt:=hedge' j ops[j] hj (by simp) e.on hin
        exact ihj e.on hlt (by omega)
      rw [hr] at hmem
      cases hmem
   ·rw [mem_ready] at hi
    obtain ⟨h0,o,ho,hafter⟩:=hi
    have hin:i<ops.size:=(Array.getElem?_eq_some_iff.1 ho).1
    have h0':listed.getD i false=false:=by
     rw [Array.getD_eq_getD_getElem?] at h0 ⊢
     rw [Array.getElem?_eq_getElem (by omega)] at h0 ⊢
     exact h0
    have hmem:o∈ops.toList:=by
     have:=(Array.getElem?_eq_some_iff.1 ho).2
     rw [←this];simp
    have hdir:∀ k∈direct o,listed.getD k false=true:=by
     intro k hk
     obtain ⟨e,he,hek⟩:=List.mem_filterMap.1 hk
     split at hek
     ·rename_i hb
      cases hek
      exact hafter e (by simpa using he) hb
     ·cases hek
    have hi:i<n:=by
     by_cases hi:i<n
     ·exact hi
     ·exfalso
      have hcl2:∀ k∈(closure ops.toList).getD i [],listed.getD k false=true∨k=i:=by
       intro k hk
       refine closure_ok (p:=fun j=>listed.getD j false=true∨j=i) ops.toList [] (fun j i hi=>by simp at hi) (fun j o' ho' k hk hj=>?_) i k hk (.inr rfl)
       have ho'':ops[j]?=some o':=by simpa using ho'
       rcases (by simpa using hj:listed.getD j false=true∨j=i) with hj | hj
       ·exact .inl (hdown j o' ho'' hj k hk)
       ·subst hj
        rw [ho] at ho''
        cases ho''
        exact .inl (hdir k hk)
      refine hdone fun q hq=>?_
      rcases hcl2 q (hsuf i (by omega) hin q hq) with h | h
      ·exact h
      ·omega
    obtain ⟨r,hr,hst⟩:=hstep i o (by rw [hL i hi];exact ho)
    have hcl1:∀ j k,k∈(closure (ops.toList.take n)).getD j []→listed.getD j false=true→listed.getD k false=true:=by
     refine closure_ok (p:=fun j=>listed.getD j false=true) (ops.toList.take n) [] (fun j i hi=>by simp at hi) fun j o' ho' k hk hj=>?_
     have hjn:j<n:=by have:=(List.getElem?_eq_some_iff.1 ho').1;rw [hLn] at this;exact this
     exact hdown j o' (by rw [←hL j hjn];exact ho') (by simpa using hj) k hk
    have hcl2:∀ k∈(closure (ops.toList.take n)).getD i [],listed.getD k false=true∨k=i:=by
     intro k hk
     refine closure_ok (p:=fun j=>listed.getD j false=true∨j=i) (ops.toList.take n) [] (fun j i hi=>by simp at hi) (fun j o' ho' k hk hj=>?_) i k hk (.inr rfl)
     have hjn:j<n:=by have:=(List.getElem?_eq_some_iff.1 ho').1;rw [hLn] at this;exact this
     have ho'':ops[j]?=some o':=by rw [←hL j hjn];exact ho'
     rcases (by simpa using hj:listed.getD j false=true∨j=i) with hj | hj
     ·exact .inl (hdown j o' ho'' hj k hk)
     ·subst hj
      rw [ho] at ho''
      cases ho''
      exact .inl (hdir k hk)
    have hpre:∀ j x,j<i→l[j]?=some x→listed.getD j false=false→x.apart r=true:=by
     intro j x hj hx hl
     rcases hpair' j i x r hj hx hr with h | h
     ·rcases hcl2 j (by simpa using h) with h | h
      ·rw [hl] at h;cases h
      ·omega
     ·exact h
    have hpost:∀ j x,i<j→l[j]?=some x→listed.getD j false=true→r.apart x=true:=by
     intro j x hj hx hl
     rcases hpair' i j r x hj hr hx with h | h
     ·have:=hcl1 j i (by simpa using h) hl
      rw [h0'] at this;cases this
     ·exact h
    obtain ⟨k1,k2,k3⟩:=stA_step (s:=s) (f:=fun j=>listed.getD j false) hr h0' hpre hpost
    have hst':=stepS_congr hst k1 k2
    unfold wpOpIn
    rw [ho]
    refine stepS_ok hT hΦ (hd o hmem) hst' (hc r (List.mem_of_getElem? hr)) hrel fun a' w' hr'=>?_
    have hget:∀ j,(listed.setIfInBounds i true).getD j false=if j=i then true else listed.getD j false:=by
     intro j
     by_cases e:j=i
     ·subst e
      rw [if_pos rfl,Array.getD_eq_getD_getElem?,Array.getElem?_setIfInBounds_self_of_lt (by omega)]
      rfl
     ·rw [if_neg e,getD_set_ne false (Ne.symm e)]
    refine ih _ a' w' (by simpa using hsz) (fun j o' ho' hj k hk=>?_) (fun q hq=>by rw [hget,if_neg (by omega)];exact hno q hq) ?_ ?_
    ·rw [hget] at hj ⊢
     split
     ·rfl
     ·split at hj
      ·rename_i e
       subst e
       rw [ho] at ho'
       cases ho'
       exact hdir k hk
      ·exact hdown j o' ho' hj k hk
    ·have hlt:((List.range ops.size).filter fun j=>!(listed.setIfInBounds i true).getD j false).length<((List.range ops.size).filter fun j=>!listed.getD j false).length:=by
      have e1:(List.range ops.size).filter (fun j=>!(listed.setIfInBounds i true).getD j false)=((List.range ops.size).filter fun j=>!listed.getD j false).filter fun j=>decide (j≠i):=by
       rw [List.filter_filter]
       apply List.filter_congr
       intro j _
       rw [hget]
       by_cases e:j=i<;>simp [e]
      rw [e1]
      have hmem':i∈(List.range ops.size).filter fun j=>!listed.getD j false:=by
       rw [List.mem_filter,List.mem_range]
       exact ⟨hin,by rw [h0'];rfl⟩
      exact List.length_filter_lt_length_iff_exists.2 ⟨i,hmem',by simp⟩
     omega
    ·have:stA l s (fun j=>(listed.setIfInBounds i true).getD j false)=r.upd (stA l s fun j=>listed.getD j false):=by
      rw [←k3]
      congr 1
      funext j
      exact hget j
     rw [this]
     exact hr'
theorem rq_ret_of {β:Type} {b:Bool} {p:Prop} {m:M β} {O:β→Prop} (h:M.Ret (rq b p m) O):M.Ret m O:=by
 cases b with
 | true=>exact h
 | false=>exact (M.ret_req.1 h).2
theorem entOps_ok {oL oB oE oX oS:Oper} (h:entOps oL oB oE oX oS=true):∃ ty m x tyB tyB' k c dL dB d1 d2 oU y,oL.op=.lookup ty m x false∧oB.op=.binOp .add tyB (.tmp dL) (.const (.int k c)) tyB'∧oE.op=.mapEntry ty m x∧oX.op=.extract (.tmp d1) 1∧
  oU.op=.mapUpdate ty m x y∧fuse3 oE oX oS=some (oU,d1,d2)∧oL.dst=some dL∧oB.dst=some dB∧oE.dst=some d1∧oX.dst=some d2∧InR k c∧(dL≠dB∧dL≠d1∧dL≠d2∧dB≠d1∧dB≠d2∧d1≠d2)∧
  (m≠.tmp dL∧m≠.tmp dB∧m≠.tmp d1∧m≠.tmp d2)∧(x≠.tmp dL∧x≠.tmp dB∧x≠.tmp d1∧x≠.tmp d2)∧(∃ tm,m=.tmp tm)∧(∃ tx,x=.tmp tx)∧oL.guard=none∧oB.guard=none∧oE.guard=none∧oX.guard=none∧oS.guard=none:=by
 unfold entOps at h
 split at h
 ·rename_i ty m x tyB t k c tyB' ty' m' x' hL hB hE
  split at h
  ·rename_i dL dB oU d1 d2 tL tB hfu
   simp only [decide_eq_true_eq] at h
   obtain ⟨rfl,rfl,hin,e1,e2,n1,n2,n3,n4,n5,n6,s1,s2,a1,a2,a3,a4,b1,b2,b3,b4,q1,q2⟩:=h
   obtain ⟨tyU,mU,xU,yU,f1,f2,f3,f4,f5,f6,f7,f8,f9,f10,f11,f12,g1,g2,g3⟩:=fuse3_ok hfu
   obtain ⟨tm,htm⟩:=Option.isSome_iff_exists.1 s1
   obtain ⟨tx,htx⟩:=Option.isSome_iff_exists.1 s2
   have em:=tmp?_some htm
   have ex:=tmp?_some htx
   have em':=tmp?_some (e1.trans htm)
   have ex':=tmp?_some (e2.trans htx)
   rw [f1] at hE
   simp only [Op.mapEntry.injEq] at hE
   obtain ⟨rfl,rfl,rfl⟩:=hE
   subst em;subst ex
   subst em';subst ex'
   refine ⟨_,_,_,_,_,_,_,_,_,_,_,oU,_,hL,hB,f1,f3,f7,hfu,tL,tB,f2,f4,hin,⟨n1,n2,n3,n4,n5,n6⟩,?_,?_,⟨_,rfl⟩,⟨_,rfl⟩,Option.isNone_iff_eq_none.1 q1,Option.isNone_iff_eq_none.1 q2,g1,g2,g3⟩
   ·simp only [tmp?,ne_eq,Option.some.injEq] at a1 a2 a3 a4
    exact ⟨fun e=>a1 (by cases e;rfl),fun e=>a2 (by cases e;rfl),fun e=>a3 (by cases e;rfl),fun e=>a4 (by cases e;rfl)⟩
   ·simp only [tmp?,ne_eq,Option.some.injEq] at b1 b2 b3 b4
    exact ⟨fun e=>b1 (by cases e;rfl),fun e=>b2 (by cases e;rfl),fun e=>b3 (by cases e;rfl),fun e=>b4 (by cases e;rfl)⟩
  ·cases h
 ·cases h
theorem draw_ent_ok {β:Type} {n:Nat} (hent:entEnd ops.toList=true) (hn:n=ops.size - 5) (hT:TabOk C.P T) (hΦ:CtrOk C.P Φ) (hΨ:PsiOk C.P C.ft Ψ) (hd:∀ o∈ops.toList,dstOk o C.nt=true) {k:AState→M β} {O:β→Prop}
  (hk:∀ s' a' w',Rel C s' a' w'→M.Ret (k s') O→Q .normal a' w') (hm:M.Ret (regI C.ft T Φ Ψ ops (ops.toList.drop n) [] s k) O) :
  (n≤ops.size∧∀ j,n≤j→j<ops.size→∀ i,i<n→i∈(closure ops.toList).getD j [])∧∀ (a:Act) (w:World),Rel C s a w→∀ (fuel:Nat) (listed:Array Bool),listed.size=ops.size→(∀ i,listed.getD i false=decide (i<n))→ops.size - n≤fuel→wpAnyIn (rnd C.r) 0 C.P .any ops Q fuel listed a w:=by
 unfold entEnd at hent
 rw [show ops.toList.length - 5=n by simp [hn]] at hent
 split at hent
 ·rename_i oL oB oE oX oS hdrop
  simp only [Bool.and_eq_true,List.all_eq_true,List.mem_range,List.contains_eq_mem,decide_eq_true_eq,Bool.or_eq_true] at hent
  obtain ⟨hops,⟨⟨⟨⟨⟨hedge,hpre⟩,hB1⟩,hX1⟩,hS1⟩,hE2⟩,hX2⟩:=hent
  have hsz5:ops.size=n+5:=by
   have:=congrArg List.length hdrop
   simp at this
   omega
  have gat:∀ q (o:Oper),[oL,oB,oE,oX,oS][q]?=some o→ops[n+q]?=some o:=fun q o h=>by
   rw [←hdrop,List.getElem?_drop,Array.getElem?_toList] at h
   exact h
  have gL:=gat 0 oL rfl
  have gB:=gat 1 oB rfl
  have gE:=gat 2 oE rfl
  have gX:=gat 3 oX rfl
  have gS:=gat 4 oS rfl
  have mem:∀ {q o},ops[n+q]?=some o→o∈ops.toList:=fun h=>by
   rw [←Array.getElem?_toList] at h
   exact List.mem_of_getElem? h
  obtain ⟨ty,m,x,tyB,tyB',kc,c,dL,dB,d1,d2,oU,y,hL,hB,hE,hX,hU,hfz,tL,tB,tE,tX,hin,⟨n1,n2,n3,n4,n5,n6⟩,⟨m1,m2,m3,m4⟩,⟨x1,x2,x3,x4⟩,⟨tm,em⟩,⟨tx,ex⟩,wL,wB,wE',wX,wS⟩:=entOps_ok hops
  have hdL:∀ c,oL.op≠.defer c:=by rw [hL];intro c hc;cases hc
  have hdB:∀ c,oB.op≠.defer c:=by rw [hB];intro c hc;cases hc
  have hdE:∀ c,oE.op≠.defer c:=by rw [hE];intro c hc;cases hc
  have hdX:∀ c,oX.op≠.defer c:=by rw [hX];intro c hc;cases hc
  refine ⟨⟨by omega,fun j h1 h2 i hi=>by have:=hpre (j - n) (by omega) i hi;rwa [show n+(j - n)=j by omega] at this⟩,fun a w hr fuel listed hsz hl hfu=>?_⟩
  have htext:=regI_ok (Q:=Q) hT hΦ hΨ hd hk _ n [] s a w rfl (fun p hp=>by cases hp) hr hm
  rw [show (ops.toList.drop n).length=5 by rw [hdrop];rfl] at htext
  rw [hdrop] at hm
  obtain ⟨κ,F,hrk⟩:=hr
  have gd:∀ {o:Oper},o.guard=none→∀ s:AState,guardV s.slot ops o.guard=some none:=fun h s=>by rw [h];rfl
  have nof:∀ {o:Oper} {os},(∀ ty m x,o.op≠.mapEntry ty m x)→fuseMap o os=none:=fun {o os} h=>by
   unfold fuseMap
   split
   ·unfold fuse3
    split
    ·rename_i e;exact absurd e (h _ _ _)
    ·rfl
   ·rfl
  have hLn:fuseMap oL [oB,oE,oX,oS]=none:=nof (by rw [hL];intro _ _ _ e;cases e)
  unfold regI at hm
  rw [hLn] at hm
  simp only [gd wL] at hm
  split at hm
  ·rename_i resL hresL
   rw [rq_ret fun hb=>(obM_ok (s:=s) (fun p hp=>by cases hp) (gk:=none) (fun k hk=>by cases hk) hb).run s.blk resL hresL,rq_ret fun hb=>(opV_c hb).run s.blk resL hresL] at hm
   obtain ⟨obL,cL,hm⟩:=hm
   have hokL:=opV_ok hT hΦ (hd oL (mem gL)) hresL
   have hresL':=hresL
   simp only [opV,plV,hL,opV0,lookOpV] at hresL'
   have hLf:(use (opAV C.ft s.slot m)).1∧(use (opAV C.ft s.slot x)).1∧resL.wb=[]∧∃ v u,resL.dv=.val v u:=by
    split at hresL'
    ·rename_i kk vv hkv
     split at hresL'
     ·simp only [Rd.run_bindO,Option.bind_eq_some_iff,okRes,Rd.run_ret,Option.some.injEq] at hresL'
      obtain ⟨es,hes,⟨y,l⟩,hy,rfl⟩:=hresL'
      exact ⟨obL.1,obL.2,rfl,_,_,rfl⟩
     ·cases hresL'
    ·cases hresL'
   obtain ⟨hobm,hobx,hwbL,vL,uL,hdvL⟩:=hLf
   have hBn:fuseMap oB [oE,oX,oS]=none:=nof (by rw [hB];intro _ _ _ e;cases e)
   unfold regI at hm
   rw [hBn] at hm
   simp only [gd wB] at hm
   split at hm
   ·rename_i resB hresB
    have hm:=rq_ret_of (rq_ret_of hm)
    have hresB':=hresB
    have e1:(s.app oL.dst resL).slot dL=.val vL uL:=by rw [tL,AState.app,AState.set_slot',hdvL]
    have hcv:constAV (.int kc c)=.val (.int kc) c:=by simp [constAV,hin]
    have hBf:∃ a1,vL=.int kc∧resB.wb=[]∧a1=uL:=by
     simp only [opV,plV,hB,opV0,opAV,e1,hcv,use,AV.int?,AV.str?] at hresB'
     split at hresB'
     ·rename_i k1 a1 k2 b1 h1 h2
      split at h1
      ·rename_i k3 x3 h3
       cases h2
       cases h3
       cases h1
       split at hresB'
       ·rename_i hkk
        simp only [intOp,okRes,Rd.run_ret,Option.some.injEq] at hresB'
        subst hresB'
        exact ⟨_,by rw [hkk],rfl,rfl⟩
       ·cases hresB'
      ·cases h1
     ·rename_i hno
      exfalso
      split at hresB'
      ·rename_i h1 h2
       cases h2
      ·simp only [Rd.run_bindO,Option.bind_eq_some_iff] at hresB'
       obtain ⟨⟨c',v'⟩,h1,h2⟩:=hresB'
       simp only [eqOp,Rd.run_bindO,Option.bind_eq_some_iff,Rd.run_ret] at h1
       obtain ⟨_,_,h3⟩:=h1
       cases h3
    obtain ⟨uL',rfl,hwbB,rfl⟩:=hBf
    have hbl:((s.app oL.dst resL).app oB.dst resB).blk=s.blk:=by
     simp only [AState.app,hwbL,hwbB,AState.setBs,tL,tB,AState.set]
    have keep:∀ {t:Nat},t≠dL→t≠dB→((s.app oL.dst resL).app oB.dst resB).slot t=s.slot t:=fun {t} h1 h2=>by
     simp only [AState.app,hwbL,hwbB,AState.setBs]
     rw [AState.set_slot (by rw [tB];intro e;cases e;exact h2 rfl),AState.set_slot (by rw [tL];intro e;cases e;exact h1 rfl)]
    unfold regI at hm
    rw [show fuseMap oE [oX,oS]=some (oU,d1,d2) from hfz] at hm
    simp only at hm
    split at hm
    ·rename_i resU hresU
     obtain ⟨u,nb,wE,hfacts⟩:=ent_facts (s:=s) hT hL hE hU hbl (by rw [em];exact keep (fun e=>m1 (by rw [em,e])) (fun e=>m2 (by rw [em,e]))) (by rw [ex];exact keep (fun e=>x1 (by rw [ex,e])) (fun e=>x2 (by rw [ex,e]))) hresU hrk hobm hobx
     have hrunL:=(hfacts a rfl rfl).1
     have hrel1:=oper_value_of (K:=fun a' w'=>Rel C (s.app oL.dst resL) a' w') (Q:=Q) hdL hrunL (hokL a w κ F Q hrk obL cL)
     have hdLn:dL<a.tmps.size:=by
      have:=hd oL (mem gL)
      simp only [dstOk,Bool.and_eq_true] at this
      have:=this.1
      rw [tL] at this
      have h1:=hrk.tsz
      rw [h1]
      simpa using this
     have hd1n:d1<a.tmps.size:=by
      have:=hd oE (mem gE)
      simp only [dstOk,Bool.and_eq_true] at this
      have:=this.1
      rw [tE] at this
      have h1:=hrk.tsz
      rw [h1]
      simpa using this
     have hu:u=.int kc uL':=by
      obtain ⟨κ1,F1,hr1⟩:=hrel1
      have h1:=hr1.slots dL
      rw [e1,tL] at h1
      have h2:(a.put (some dL) u).tmps.getD dL Go.undef=u:=eval_put_eq hdLn
      rw [h2] at h1
      exact (RV_int.1 h1).1
     subst hu
     let vB:Value:=.int kc (kc.wrap (uL'+c))
     have exB:∀ (a':Act) (w':World),a'.eval (.tmp dL)=.int kc uL'→(execOp a'.eval oB).run C.P w'=.ok (.value vB) w':=fun a' w' h=>by
      have h2:a'.eval (.const (.int kc c))=.int kc c:=rfl
      have h3:(Go.binOp .add tyB (.int kc uL') (.int kc c)).run C.P w'=.ok vB w':=by simp [Go.binOp,Op.intArith,vB]
      simp only [execOp,hB,h,h2,Sem.run_bind,eqGuard_int,Result.andThen_ok,h3,Sem.run_pure]
     have exX:∀ (a':Act) (w':World),a'.eval (.tmp d1)=.tuple #[.int kc uL',goInt nb]→(execOp a'.eval oX).run C.P w'=.ok (.value (goInt nb)) w':=fun a' w' h=>by
      simp [execOp,hX,h,Instr.extract]
     have evm:∀ l b e x',(entA a dL dB d1 d2 (.int kc uL') vB (.tuple #[.int kc uL',goInt nb]) (goInt nb) l b e x').eval m=a.eval m:=fun l b e x'=>entA_eval m1 m2 m3 m4
     have evx:∀ l b e x',(entA a dL dB d1 d2 (.int kc uL') vB (.tuple #[.int kc uL',goInt nb]) (goInt nb) l b e x').eval x=a.eval x:=fun l b e x'=>entA_eval x1 x2 x3 x4
     refine draw_ent (wE:=wE) (u:=.int kc uL') (vB:=vB) (vE:=.tuple #[.int kc uL',goInt nb]) (vX:=goInt nb) hsz5 hedge gL gB gE gX gS wL wB wE' wX wS hdL hdB hdE hdX hpre hB1 hX1 hS1 hE2 hX2 tL tB tE tX n1 n2 n3 n4 n5 ?_ ?_ ?_ ?_ htext fuel listed hsz hl (by omega)
     ·intro b e x'
      have:=hfacts _ (evm false b e x') (evx false b e x')
      cases e
      ·exact this.1
      ·exact this.2.1
     ·intro e x'
      refine exB _ _ ?_
      have h1:(entA a dL dB d1 d2 (.int kc uL') vB (.tuple #[.int kc uL',goInt nb]) (goInt nb) true false e x').eval (.tmp dL)=(a.put (some dL) (.int kc uL')).eval (.tmp dL):=by
       have q1:Operand.tmp dL≠.tmp d1:=fun h=>n2 (by cases h;rfl)
       have q2:Operand.tmp dL≠.tmp d2:=fun h=>n3 (by cases h;rfl)
       unfold entA
       cases e<;>cases x'<;>simp [eval_put_ne,q1,q2]
      rw [h1]
      exact eval_put_eq hdLn
     ·intro l b x'
      exact (hfacts _ (evm l b false x') (evx l b false x')).2.2
     ·intro l b
      refine exX _ _ ?_
      have h1:entA a dL dB d1 d2 (.int kc uL') vB (.tuple #[.int kc uL',goInt nb]) (goInt nb) l b true false=(entA a dL dB d1 d2 (.int kc uL') vB (.tuple #[.int kc uL',goInt nb]) (goInt nb) l b false false).put (some d1) (.tuple #[.int kc uL',goInt nb]):=rfl
      rw [h1]
      exact eval_put_eq (by rw [entA_size];exact hd1n)
    ·exact hm.1.elim
   ·rename_i hnone
    exfalso
    have:progI C.ft T Φ Ψ (s.app oL.dst resL) oB=none:=by
     have hcv:constAV (.int kc c)=.val (.int kc) c:=by simp [constAV,hin]
     simp only [progI,hB,nilEqI,opAV,hcv]
     split<;>simp_all
    rw [this] at hm
    exact hm.1
  ·exfalso
   have:progI C.ft T Φ Ψ s oL=none:=by simp only [progI,hL]
   rw [this] at hm
   exact hm.1
 ·cases hent
theorem stepE_ok {β:Type} {L:List (AState→M β)} (hL:L≠[]) {o:Oper} (hT:TabOk C.P T) (hΦ:CtrOk C.P Φ) (hΨ:PsiOk C.P C.ft Ψ) (hdo:dstOk o C.nt=true) {O:β→Prop} {s:AState} {a:Act} {w:World} (hr:Rel C s a w)
  (hm:∀ k∈L,M.Ret (stepE C.ft T Φ Ψ ops o s k) O) {K:Act→World→Prop} (hK:∀ s' a' w',Rel C s' a' w'→(∀ k∈L,M.Ret (k s') O)→K a' w'):o.guard=none∧o.wpIn (rnd C.r) 0 C.P a w K Q:=by
 obtain ⟨k0,hk0⟩:=List.exists_mem_of_ne_nil L hL
 have hdst:∀ i,o.dst=some i→i<C.nt:=fun i hi=>by
  have:=hdo
  simp only [dstOk,Bool.and_eq_true] at this
  have:=this.1
  rw [hi] at this
  simpa using this
 unfold stepE at hm
 split at hm
 ·exact (hm k0 hk0).1.elim
 ·rename_i hg
  refine ⟨hg,?_⟩
  split at hm
  ·rename_i res hres
   obtain ⟨κ,F,hrk⟩:=hr
   have hm:∀ k∈L,res.ob∧res.c∧M.Ret (k (s.app o.dst res)) O:=fun k hk=>by
    have:=hm k hk
    rw [rq_ret fun hb=>(obM_ok (ops:=ops) (tg:=[]) (s:=s) (fun p hp=>by cases hp) (gk:=none) (fun k hk=>by cases hk) hb).run s.blk res hres,rq_ret fun hb=>(opV_c hb).run s.blk res hres] at this
    exact this
   exact Oper.wpIn_mono (fun a' w' hr'=>hK _ a' w' hr' fun k hk=>(hm k hk).2.2) (opV_ok hT hΦ hdo hres a w κ F Q hrk (hm k0 hk0).1 (hm k0 hk0).2.1)
  ·split at hm
   ·rename_i pr hpr
    obtain ⟨p1,p2,p3⟩:=progI_ok hT hΦ hΨ hdst hpr
    have hm:∀ k∈L,pr.ob∧M.Ret pr.m fun y=>M.Ret (k (pr.st y)) O:=fun k hk=>by
     have:=hm k hk
     rw [rq_ret fun hb=>p3 (obF_ok hb),M.ret_bind] at this
     exact this
    refine p1 a w Q _ hr (hm k0 hk0).1 ⟨(hm k0 hk0).2.1,fun y hy a' w' hr'=>hK _ a' w' hr' fun k hk=>(hm k hk).2.2 y hy⟩
   ·exact (hm k0 hk0).1.elim
theorem mem_readyL {ops:List Oper} {done:List Nat} {i:Nat}:i∈readyL ops done↔i<ops.length∧i ∉ done∧∃ o,ops[i]?=some o∧∀ j∈direct o,j∈done:=by
 unfold readyL
 rw [List.mem_filter,List.mem_range,Bool.and_eq_true,Bool.not_eq_true',List.contains_eq_mem,decide_eq_false_iff_not]
 refine and_congr_right fun h=>and_congr_right fun _=>?_
 rw [List.getElem?_eq_getElem h]
 simp
theorem exts_ne {ops:List Oper}:∀ (f:Nat) (done:List Nat),exts ops f done≠[]
 | 0,done=>by simp [exts]
 | f+1,done=>by
  unfold exts
  split
  ·simp
  ·rename_i l hl
   cases hc:readyL ops done with
   | nil=>exact absurd hc hl
   | cons i is=>
    rw [List.flatMap_cons]
    intro h
    rw [List.append_eq_nil_iff,List.map_eq_nil_iff] at h
    exact exts_ne f _ h.1
theorem ready_eq {listed:Array Bool} {done:List Nat} (hsz:listed.size=ops.size) (hl:∀ i,listed.getD i false=done.contains i):Region.ready .any ops listed=readyL ops.toList done:=by
 unfold Region.ready readyL
 rw [Array.length_toList]
 refine List.filter_congr fun i hi=>?_
 have hi:i<ops.size:=by simpa using hi
 have h1:listed.getD i true=done.contains i:=by
  rw [←hl i,Array.getD_eq_getD_getElem?,Array.getD_eq_getD_getElem?,Array.getElem?_eq_getElem (by omega)]
  rfl
 rw [h1]
 congr 1
 have ho:ops.toList[i]?=some ops[i]:=by simp [hi]
 rw [ho,Array.getElem?_eq_getElem hi]
 show ops[i].after.all _=(direct ops[i]).all _
 rw [Bool.eq_iff_iff,Array.all_eq_true',List.all_eq_true]
 unfold direct
 simp only [List.mem_filterMap]
 constructor
 ·rintro h j ⟨e,he,hej⟩
  split at hej
  ·rename_i hb
   cases hej
   have:=h e (by simpa using he)
   rw [hb,hl] at this
   simpa using this
  ·cases hej
 ·intro h e he
  cases hb:Region.binds .any e with
  | false=>simp
  | true=>
   have:=h e.on ⟨e,by simpa using he,by rw [hb];rfl⟩
   rw [hl,this]
   simp
theorem drawE_any {β:Type} (hT:TabOk C.P T) (hΦ:CtrOk C.P Φ) (hΨ:PsiOk C.P C.ft Ψ) (hd:∀ o∈ops.toList,dstOk o C.nt=true) {k:AState→M β} {O:β→Prop} (hk:∀ s' a' w',Rel C s' a' w'→M.Ret (k s') O→Q .normal a' w'):∀ (fuel:Nat) (done:List Nat) (listed:Array Bool) (s:AState) (a:Act) (w:World),listed.size=ops.size→(∀ i,listed.getD i false=done.contains i)→goodE ops.toList fuel done=true→
  Rel C s a w→(∀ l∈exts ops.toList fuel done,M.Ret (runE C.ft T Φ Ψ ops l s k) O)→wpAnyIn (rnd C.r) 0 C.P .any ops Q fuel listed a w:=by
 intro fuel
 induction fuel with
 | zero=>
  intro done listed s a w hsz hl hg hr hm
  have hrd:=ready_eq (ops:=ops) hsz hl
  refine ⟨?_,hk s a w hr (hm [] (by simp [exts]))⟩
  rw [hrd]
  exact List.isEmpty_iff.1 hg
 | succ fuel ih=>
  intro done listed s a w hsz hl hg hr hm
  have hrd:=ready_eq (ops:=ops) hsz hl
  refine ⟨fun h0=>?_,fun i hi=>?_⟩
  ·rw [hrd] at h0
   refine hk s a w hr (hm [] ?_)
   unfold exts
   rw [h0]
   simp
  ·rw [hrd] at hi
   obtain ⟨hil,hin,o,ho,_⟩:=mem_readyL.1 hi
   have hil:i<ops.size:=by simpa using hil
   have ho':ops[i]?=some o:=by simpa using ho
   have hmo:o∈ops.toList:=List.mem_of_getElem? ho
   have hmem:∀ l∈exts ops.toList fuel (i::done),M.Ret (stepE C.ft T Φ Ψ ops o s fun s'=>runE C.ft T Φ Ψ ops l s' k) O:=fun l hle=>by
    have:=hm (i::l) (by
     unfold exts
     split
     ·rename_i h0;rw [h0] at hi;cases hi
     ·exact List.mem_flatMap.2 ⟨i,hi,List.mem_map.2 ⟨l,hle,rfl⟩⟩)
    unfold runE at this
    rw [ho'] at this
    exact this
   obtain ⟨g1,g2⟩:=stepE_ok (Q:=Q) (L:=(exts ops.toList fuel (i::done)).map fun l=>fun s'=>runE C.ft T Φ Ψ ops l s' k) (by simpa using exts_ne fuel (i::done)) hT hΦ hΨ (hd o hmo) hr
    (fun k' hk'=>by obtain ⟨l,hle,rfl⟩:=List.mem_map.1 hk';exact hmem l hle)
    (K:=wpAnyIn (rnd C.r) 0 C.P .any ops Q fuel (listed.setIfInBounds i true)) fun s' a' w' hr' hms=>by
     refine ih (i::done) _ s' a' w' (by simpa using hsz) (fun j=>?_) ?_ hr' fun l hle=>hms _ (List.mem_map.2 ⟨l,hle,rfl⟩)
     ·by_cases e:j=i
      ·subst e
       rw [Array.getD_eq_getD_getElem?,Array.getElem?_setIfInBounds_self_of_lt (by omega)]
       simp
      ·rw [getD_set_ne false (Ne.symm e),hl j]
       simp [e]
     ·unfold goodE at hg
      rw [List.all_eq_true] at hg
      exact hg i hi
   unfold wpOpIn
   rw [ho']
   simp only
   have hw:Region.wanted o (yielded ops a.tmps)=true:=by unfold Region.wanted;rw [g1]
   rw [if_pos hw]
   exact g2
def dumS:SR:=⟨[],none,.undef,[],[],[]⟩
theorem fold_dum (s:AState):∀ n,fold (List.replicate n dumS) s=s
 | 0=>rfl
 | n+1=>by
  show fold (List.replicate n dumS) (dumS.upd s)=s
  exact fold_dum s n
theorem draw_mid {n:Nat} (hmid:midOk ops.toList n=true) (hT:TabOk C.P T) (hΦ:CtrOk C.P Φ) (hd:∀ o∈ops.toList,dstOk o C.nt=true) {o:Oper} (go:ops[n]?=some o) {s1:AState}
  {K2:Act→World→Prop} (hop:∀ a w,Rel C s1 a w→Region.wanted o (yielded ops a.tmps)=true∧o.wpIn (rnd C.r) 0 C.P a w (fun a' w'=>K2 a' w') Q)
  (hrest:∀ a' w',K2 a' w'→∃ (sy s2:AState) (l2:List SR),Rel C sy a' w'∧steps C.ft T Φ ops (ops.toList.drop (n+1)) sy=some (l2,s2)∧pairsFrom (closure ops.toList) (n+1) l2=true∧(∀ r∈l2,∀ p∈r.cs,p)∧∀ a2 w2,Rel C s2 a2 w2→Q .normal a2 w2)
  (fuel:Nat) (listed:Array Bool) (a:Act) (w:World) (hsz:listed.size=ops.size) (hl:∀ i,listed.getD i false=decide (i<n)) (hfu:ops.size - n≤fuel) (hr:Rel C s1 a w):wpAnyIn (rnd C.r) 0 C.P .any ops Q fuel listed a w:=by
 simp only [midOk,Bool.and_eq_true,decide_eq_true_eq] at hmid
 obtain ⟨hedge,hn,hmid⟩:=hmid
 have hn:n<ops.size:=by simpa using hn
 cases fuel with
 | zero=>omega
 | succ fuel=>
  have hdown:∀ q o,ops[q]?=some o→listed.getD q false=true→∀ i∈direct o,listed.getD i false=true:=fun q o ho hq i hi=>by
   rw [hl] at hq ⊢
   have hq:q<n:=by simpa using hq
   have:=List.all_eq_true.1 hedge q (by simp;omega)
   rw [show ops.toList[q]?=some o by simpa using ho] at this
   have:=List.all_eq_true.1 this i hi
   simp only [decide_eq_true_eq] at this ⊢
   omega
  have hdirn:∀ i∈direct o,i<n:=fun i hi=>by
   have:=List.all_eq_true.1 hedge n (by simp;omega)
   rw [show ops.toList[n]?=some o by simpa using go] at this
   have:=List.all_eq_true.1 this i hi
   simpa using this
  have hready:∀ i,i∈Region.ready .any ops listed↔i=n:=fun i=>by
   constructor
   ·intro hi
    rw [mem_ready] at hi
    obtain ⟨h0,o',ho,hafter⟩:=hi
    have hin:i<ops.size:=(Array.getElem?_eq_some_iff.1 ho).1
    have h0':listed.getD i false=false:=by
     rw [Array.getD_eq_getD_getElem?] at h0 ⊢
     rw [Array.getElem?_eq_getElem (by omega)] at h0 ⊢
     exact h0
    rw [hl] at h0'
    have hge:n≤i:=by simpa using h0'
    by_cases e:i=n
    ·exact e
    ·exfalso
     have hdir:∀ k∈direct o',listed.getD k false=true:=by
      intro k hk
      obtain ⟨e,he,hek⟩:=List.mem_filterMap.1 hk
      split at hek
      ·rename_i hb
       cases hek
       exact hafter e (by simpa using he) hb
      ·cases hek
     have hcl2:∀ k∈(closure ops.toList).getD i [],listed.getD k false=true∨k=i:=by
      intro k hk
      refine closure_ok (p:=fun j=>listed.getD j false=true∨j=i) ops.toList [] (fun j i hi=>by simp at hi) (fun j o'' ho' k hk hj=>?_) i k hk (.inr rfl)
      have ho'':ops[j]?=some o'':=by simpa using ho'
      rcases (by simpa using hj:listed.getD j false=true∨j=i) with hj | hj
      ·exact .inl (hdown j o'' ho'' hj k hk)
      ·subst hj
       rw [ho] at ho''
       cases ho''
       exact .inl (hdir k hk)
     have hm:=List.all_eq_true.1 hmid i (by simpa using hin)
     simp only [Bool.and_eq_true,Bool.or_eq_true,decide_eq_true_eq] at hm
     rcases hm.2 with h | h
     ·omega
     ·rcases hcl2 n (by simpa using h) with h | h
      ·rw [hl] at h;simp at h
      ·exact e h.symm
   ·rintro rfl
    rw [mem_ready]
    refine ⟨?_,o,go,fun e he hb=>?_⟩
    ·have h1:=hl i
     rw [Array.getD_eq_getD_getElem?] at h1 ⊢
     rw [Array.getElem?_eq_getElem (by omega)] at h1 ⊢
     rw [show decide (i<i)=false by simp] at h1
     exact h1
    ·have:=hdirn e.on (List.mem_filterMap.2 ⟨e,by simpa using he,by simp [hb]⟩)
     rw [hl]
     simpa using this
  refine ⟨fun h=>?_,fun i hi=>?_⟩
  ·have:=(hready n).2 rfl
   rw [h] at this;cases this
  ·obtain rfl:=(hready i).1 hi
   obtain ⟨g1,g2⟩:=hop a w hr
   unfold wpOpIn
   rw [go]
   simp only
   rw [if_pos g1]
   refine Oper.wpIn_mono (fun a' w' hk=>?_) g2
   obtain ⟨sy,s2,l2,hry,hst,hpf,hcs,hq⟩:=hrest a' w' hk
   obtain ⟨k1,k2,k3⟩:=steps_spec _ _ hst
   have hdl:(ops.toList.drop (i+1)).length=ops.size - (i+1):=by simp
   have hget:∀ j,(listed.setIfInBounds i true).getD j false=decide (j≤i):=by
    intro j
    by_cases e:j=i
    ·subst e
     rw [Array.getD_eq_getD_getElem?,Array.getElem?_setIfInBounds_self_of_lt (by omega)]
     simp
    ·rw [getD_set_ne false (Ne.symm e),hl,decide_eq_decide]
     omega
   have hrl:(List.replicate (i+1) dumS).length=i+1:=List.length_replicate
   refine draw_from (m:=i+1) (l:=List.replicate (i+1) dumS++l2) (s:=sy) (s':=s2) hT hΦ hd (by rw [List.length_append,hrl,k1,hdl,Array.length_toList];omega) (by rw [fold_append,fold_dum,k2]) (fun j o' hj ho'=>?_) hedge ?_ (fun r hr p hp=>?_) hq fuel _ a' w' (by simpa using hsz) (fun j o' ho' hj k hk=>?_) (fun j hj=>by rw [hget];simp;omega) ?_ ?_
   ·obtain ⟨r,r1,r2⟩:=k3 (j - (i+1)) o' (by rw [List.getElem?_drop,show i+1+(j - (i+1))=j by omega];exact ho')
    refine ⟨r,by rw [List.getElem?_append_right (by omega),hrl];exact r1,?_⟩
    rw [List.take_append,hrl,List.take_of_length_le (by omega),fold_append,fold_dum]
    exact r2
   ·refine List.all_eq_true.2 fun j hj=>List.all_eq_true.2 fun q hq=>?_
    have hj:j<i+1+l2.length:=by simpa [hrl] using hj
    have hq:q<j:=by simpa using hq
    by_cases hqi:q<i+1
    ·have e1:(List.replicate (i+1) dumS++l2)[q]?=some dumS:=by
      rw [List.getElem?_append_left (by omega)]
      simp [hqi]
     have e2:∃ y,(List.replicate (i+1) dumS++l2)[j]?=some y:=⟨_,List.getElem?_eq_getElem (by simp;omega)⟩
     obtain ⟨y,e2⟩:=e2
     rw [e1,e2]
     simp [SR.apart,disj,dumS,SR.ws,SR.wk]
    ·have:=List.all_eq_true.1 (List.all_eq_true.1 hpf (j - (i+1)) (by simp;omega)) (q - (i+1)) (by simp;omega)
     rw [List.getElem?_append_right (by omega),List.getElem?_append_right (by omega),hrl]
     rw [show i+1+(j - (i+1))=j by omega,show i+1+(q - (i+1))=q by omega] at this
     exact this
   ·rcases List.mem_append.1 hr with h | h
    ·rw [(List.mem_replicate.1 h).2] at hp;cases hp
    ·exact hcs r h p hp
   ·rw [hget] at hj ⊢
    have hj:j≤i:=by simpa using hj
    have:=List.all_eq_true.1 hedge j (by simp;omega)
    rw [show ops.toList[j]?=some o' by simpa using ho'] at this
    have:=List.all_eq_true.1 this k hk
    simp only [decide_eq_true_eq] at this ⊢
    omega
   ·have h2:(List.range ops.size).filter (fun j=>!(listed.setIfInBounds i true).getD j false)=(List.range ops.size).filter fun j=>decide (i+1≤j):=List.filter_congr fun j _=>by
     rw [hget]
     by_cases h:j≤i
     ·have:¬i+1≤j:=by omega
      simp [h,this]
     ·have:i+1≤j:=by omega
      simp [h,this]
    rw [h2]
    have h3:List.range ops.size=List.range (i+1)++List.range' (i+1) (ops.size - (i+1)):=by
     rw [List.range_eq_range',List.range_eq_range']
     have:=(List.range'_append (s:=0) (m:=i+1) (n:=ops.size - (i+1)) (step:=1))
     rw [Nat.one_mul,Nat.zero_add] at this
     rw [this]
     congr 1
     omega
    rw [h3,List.filter_append,List.filter_eq_nil_iff.2 fun j hj=>by have:=List.mem_range.1 hj;simp;omega,List.nil_append]
    refine Nat.le_trans (List.length_filter_le _ _) ?_
    rw [List.length_range']
    omega
   ·have:stA (List.replicate (i+1) dumS++l2) sy (fun j=>(listed.setIfInBounds i true).getD j false)=sy:=by
     unfold stA
     rw [enum_append,List.filter_append,List.map_append,fold_append]
     have e2:(enum (0+(List.replicate (i+1) dumS).length) l2).filter (fun p=>(listed.setIfInBounds i true).getD p.1 false)=[]:=List.filter_eq_nil_iff.2 fun p hp=>by
      obtain ⟨h1,_⟩:=enum_mem hp
      rw [hget]
      simp only [decide_eq_true_eq]
      rw [hrl] at h1
      omega
     rw [e2]
     have e1:∀ (l:List SR),(∀ r∈l,r=dumS)→fold l sy=sy:=fun l hl=>by
      rw [List.eq_replicate_iff.2 ⟨rfl,hl⟩,fold_dum]
     show fold (((enum 0 (List.replicate (i+1) dumS)).filter fun p=>(listed.setIfInBounds i true).getD p.1 false).map (·.2)) sy=sy
     refine e1 _ fun r hr=>?_
     obtain ⟨p,hp,rfl⟩:=List.mem_map.1 hr
     obtain ⟨_,h2⟩:=enum_mem (List.mem_filter.1 hp).1
     exact (List.mem_replicate.1 (List.mem_of_getElem? h2)).2
    rw [this]
    exact hry
theorem draw_ok {β:Type} {id:Nat} (hmix:C.P.follows .mixedOrders=true) (hT:TabOk C.P T) (hΦ:CtrOk C.P Φ) (hΨ:PsiOk C.P C.ft Ψ) (hd:∀ o∈ops.toList,dstOk o C.nt=true) {k:AState→M β} {O:β→Prop}
  (hk:∀ s' a' w',Rel C s' a' w'→M.Ret (k s') O→Q .normal a' w') {a:Act} {w:World} (hr:Rel C s a w) (hm:M.Ret (drawI C.ft T Φ Ψ ops s k) O):(Code.region id ops true).wpIn (rnd C.r) 0 C.P Q a w:=by
 unfold drawI at hm
 split at hm
 ·rename_i l s' hs
  split at hm
  ·rename_i hok
   obtain ⟨h1,h2⟩:=reqs_ret _ hm
   refine wpIn_region_any hmix ?_
   obtain ⟨κ,F,hrk⟩:=hr
   refine draw_any hT hΦ hd hs hok (fun r hr p hp=>h1 p (List.mem_flatMap.2 ⟨r,hr,hp⟩)) (fun a' w' hr'=>hk s' a' w' hr' h2) ops.size (Array.replicate ops.size false) a _ (by simp) (fun j o _ hl=>?_) ?_ ⟨κ,F,?_⟩
   ·have:(Array.replicate ops.size false).getD j false=false:=by
     rw [Array.getD_eq_getD_getElem?,Array.getElem?_replicate]
     split<;>rfl
    rw [this] at hl
    cases hl
   ·have:=List.length_filter_le (fun j=>!(Array.replicate ops.size false).getD j false) (List.range ops.size)
    simpa using this
   ·have:stA l s (fun j=>(Array.replicate ops.size false).getD j false)=s:=by
     unfold stA
     rw [List.filter_eq_nil_iff.2 fun p _=>?_]
     ·rfl
     ·simp only [Array.getD_eq_getD_getElem?,Array.getElem?_replicate]
      split<;>simp
    rw [this]
    exact hrk.drew
  ·exact hm.1.elim
 ·split at hm
  ·rename_i l s' hs
   split at hm
   ·rename_i hok
    rw [Bool.and_eq_true] at hok
    obtain ⟨h1,h2⟩:=reqs_ret _ hm
    refine wpIn_region_any hmix ?_
    obtain ⟨κ,F,hrk⟩:=hr
    have cont:(drawSuf ops.toList≤ops.size∧∀ j,drawSuf ops.toList≤j→j<ops.size→∀ i,i<drawSuf ops.toList→i∈(closure ops.toList).getD j [])∧∀ (fuel:Nat) (listed:Array Bool) a' w',listed.size=ops.size→(∀ i,listed.getD i false=decide (i<drawSuf ops.toList))→ops.size - drawSuf ops.toList≤fuel→Rel C s' a' w'→wpAnyIn (rnd C.r) 0 C.P .any ops Q fuel listed a' w':=by
     by_cases hent:entEnd ops.toList=true
     ·have en:drawSuf ops.toList=ops.size - 5:=by unfold drawSuf;rw [if_pos hent];simp
      obtain ⟨e1,e2⟩:=draw_ent_ok (Q:=Q) hent en hT hΦ hΨ hd hk h2
      exact ⟨e1,fun fuel listed a' w' hsz hall hfu hr'=>e2 a' w' hr' fuel listed hsz hall hfu⟩
     ·have en:drawSuf ops.toList=sufGo (closure ops.toList) ops.toList.length:=by unfold drawSuf;rw [if_neg hent]
      obtain ⟨hn1,hn2⟩:=sufGo_spec (closure ops.toList) ops.toList.length
      have hn1:drawSuf ops.toList≤ops.size:=by rw [en];simpa using hn1
      have hn2:∀ j,drawSuf ops.toList≤j→j<ops.size→∀ i,i<j→i∈(closure ops.toList).getD j []:=fun j h1 h2=>hn2 j (by rw [←en];exact h1) (by simpa using h2)
      refine ⟨⟨hn1,fun j h1 h2 i hi=>hn2 j h1 h2 i (by omega)⟩,fun fuel listed a' w' hsz hall hfu hr'=>?_⟩
      refine draw_suf hok.2 hn2 (ops.size - drawSuf ops.toList) (drawSuf ops.toList) fuel listed a' w' (Nat.le_refl _) (by omega) hsz hall hfu ?_
      have hlen:(ops.toList.drop (drawSuf ops.toList)).length=ops.size - drawSuf ops.toList:=by simp
      rw [←hlen]
      exact regI_ok (Q:=Q) hT hΦ hΨ hd hk _ _ [] s' a' w' rfl (fun p hp=>by cases hp) hr' h2
    obtain ⟨⟨hn1,hn2⟩,hcont⟩:=cont
    refine draw_pre hn1 hT hΦ hd hs hok.1 hn2 (fun r hr p hp=>h1 p (List.mem_flatMap.2 ⟨r,hr,hp⟩)) (fun fuel listed a' w' hsz hall hfu hr'=>?_) ops.size (Array.replicate ops.size false) a _ (by simp) (fun j o _ hl=>?_) (fun i _=>?_) ?_ ⟨κ,F,?_⟩
    ·exact hcont fuel listed a' w' hsz hall hfu hr'
    ·have:(Array.replicate ops.size false).getD j false=false:=by
      rw [Array.getD_eq_getD_getElem?,Array.getElem?_replicate]
      split<;>rfl
     rw [this] at hl
     cases hl
    ·rw [Array.getD_eq_getD_getElem?,Array.getElem?_replicate]
     split<;>rfl
    ·have:=List.length_filter_le (fun j=>!(Array.replicate ops.size false).getD j false) (List.range ops.size)
     simpa using this
    ·have:stA l s (fun j=>(Array.replicate ops.size false).getD j false)=s:=by
      unfold stA
      rw [List.filter_eq_nil_iff.2 fun p _=>?_]
      ·rfl
      ·simp only [Array.getD_eq_getD_getElem?,Array.getElem?_replicate]
       split<;>simp
     rw [this]
     exact hrk.drew
   ·exact hm.1.elim
  ·split at hm
   ·rename_i hmid
    unfold drawM at hm
    split at hm
    ·rename_i l s1 hs
     split at hm
     ·rename_i hok
      split at hm
      ·rename_i o go
       split at hm
       ·rename_i hgv
        split at hm
        ·rename_i pr hpr
         obtain ⟨h1,h2⟩:=reqs_ret _ hm
         have hmo:o∈ops.toList:=List.mem_of_getElem? (by simpa using go)
         have hdst:∀ i,o.dst=some i→i<C.nt:=fun i hi=>by
          have:=hd o hmo
          simp only [dstOk,Bool.and_eq_true] at this
          have:=this.1
          rw [hi] at this
          simpa using this
         obtain ⟨p1,p2,p3⟩:=progI_ok hT hΦ hΨ hdst hpr
         have hob:pr.ob:=by
          cases hf:obF (opAV C.ft s1.slot) o with
          | true=>exact p3 (obF_ok hf)
          | false=>rw [hf] at h2;exact (M.ret_req.1 h2).1
         have h2:=rq_ret_of h2
         rw [M.ret_bind] at h2
         refine wpIn_region_any hmix ?_
         obtain ⟨κ,F,hrk⟩:=hr
         have hmid':=hmid
         simp only [midOk,Bool.and_eq_true,decide_eq_true_eq] at hmid'
         have hn:stepsN C.ft T Φ ops ops.toList s<ops.size:=by simpa using hmid'.2.1
         refine draw_pre (Nat.le_of_lt hn) hT hΦ hd hs hok (fun j hj1 hj2 i hi=>?_) (fun r hr p hp=>h1 p (List.mem_flatMap.2 ⟨r,hr,hp⟩)) (fun fuel listed a' w' hsz hall hfu hr'=>?_) ops.size (Array.replicate ops.size false) a _ (by simp) (fun j o _ hl=>?_) (fun i _=>?_) ?_ ⟨κ,F,?_⟩
         ·have:=List.all_eq_true.1 hmid'.2.2 j (by simpa using hj2)
          simp only [Bool.and_eq_true,Bool.or_eq_true,decide_eq_true_eq] at this
          rcases this.1 with h | h
          ·omega
          ·simpa using List.all_eq_true.1 h i (by simpa using hi)
         ·refine draw_mid hmid hT hΦ hd go (s1:=s1) (K2:=fun a' w'=>∃ y,Rel C (pr.st y) a' w'∧M.Ret _ O) (fun a w hr=>⟨?_,p1 a w Q _ hr hob ⟨h2.1,fun y hy a' w' hr'=>⟨y,hr',h2.2 y hy⟩⟩⟩) (fun a' w' ⟨y,hry,hmy⟩=>?_) fuel listed a' w' hsz hall hfu hr'
          ·obtain ⟨κ,F,hr⟩:=hr
           rw [guardV_ok hr hgv]
           rfl
          ·split at hmy
           ·rename_i l2 s2 hs2
            split at hmy
            ·rename_i hpf
             obtain ⟨k1,k2⟩:=reqs_ret _ hmy
             exact ⟨_,s2,l2,hry,hs2,hpf,fun r hr p hp=>k1 p (List.mem_flatMap.2 ⟨r,hr,hp⟩),fun a2 w2 hr2=>hk s2 a2 w2 hr2 k2⟩
            ·exact hmy.1.elim
           ·exact hmy.1.elim
         ·have:(Array.replicate ops.size false).getD j false=false:=by
           rw [Array.getD_eq_getD_getElem?,Array.getElem?_replicate]
           split<;>rfl
          rw [this] at hl
          cases hl
         ·rw [Array.getD_eq_getD_getElem?,Array.getElem?_replicate]
          split<;>rfl
         ·have:=List.length_filter_le (fun j=>!(Array.replicate ops.size false).getD j false) (List.range ops.size)
          simpa using this
         ·have:stA l s (fun j=>(Array.replicate ops.size false).getD j false)=s:=by
           unfold stA
           rw [List.filter_eq_nil_iff.2 fun p _=>?_]
           ·rfl
           ·simp only [Array.getD_eq_getD_getElem?,Array.getElem?_replicate]
            split<;>simp
          rw [this]
          exact hrk.drew
        ·exact hm.1.elim
       ·exact hm.1.elim
      ·exact hm.1.elim
     ·exact hm.1.elim
    ·exact hm.1.elim
   unfold drawE at hm
   split at hm
   ·rename_i hgd
    refine wpIn_region_any hmix ?_
    obtain ⟨κ,F,hrk⟩:=hr
    refine drawE_any hT hΦ hΨ hd hk ops.size [] (Array.replicate ops.size false) s a _ (by simp) (fun i=>?_) hgd ⟨κ,F,hrk.drew⟩ fun l hle=>⟨hm.1 _ (List.mem_map.2 ⟨l,hle,rfl⟩),fun y hy=>hm.2 y ⟨_,List.mem_map.2 ⟨l,hle,rfl⟩,hy⟩⟩
    rw [Array.getD_eq_getD_getElem?,Array.getElem?_replicate]
    split<;>simp
   ·exact hm.1.elim
end
end Go.Fer
namespace Go.Fer
open Go.RowKit
theorem ret_fail {β:Type} {O:β→Prop} (h:M.Ret (M.fail:M β) O):False:=h.1
theorem rdM_ret {β:Type} {sh:Shape} {s:AState} {k:sh.Den→M β} {O:β→Prop} (h:M.Ret (sh.rdM s k) O):∃ σ,sh.rd s=some σ∧M.Ret (k σ) O:=by
 unfold Shape.rdM at h
 split at h
 ·rename_i σ hσ;exact ⟨σ,hσ,h⟩
 ·exact (ret_fail h).elim
def markD (B:Nat):Deferred:={ target:=.collected B,args:=#[] }
structure UpD where
 w:World
 K:Nat→Prop
 ms:List Nat
def Ctx.up (C:Ctx) (u:UpD):Ctx:={ C with w0:=u.w,K0:=u.K,dfr:=u.ms.map markD++C.dfr }
structure Ctx.UpOk (C:Ctx) (u:UpD):Prop where
 mks:∀ B∈u.ms,u.K B∧u.w.heap[B]?=some (.deferred (some []))
 new:∀ B∈u.ms,¬C.K0 B∧C.w0.heap.size≤B
 nd:u.ms.Nodup
 k0:∀ r,C.K0 r→u.K r
 keep:∀ r,C.K0 r→u.w.heap[r]?=C.w0.heap[r]?
 size:C.w0.heap.size≤u.w.heap.size
 calm:Calm C.w0 u.w
def Ctx.same (C:Ctx):UpD:=⟨C.w0,C.K0,[]⟩
theorem Ctx.upSame (C:Ctx):C.UpOk C.same:=⟨fun _ h=>by simp [Ctx.same] at h,fun _ h=>by simp [Ctx.same] at h,List.nodup_nil,fun _ h=>h,fun _ _=>rfl,Nat.le_refl _,Calm.refl _⟩
def UpD.then (u v:UpD):UpD:=⟨v.w,v.K,v.ms++u.ms⟩
theorem Ctx.up_then (C:Ctx) (u v:UpD):(C.up u).up v=C.up (u.then v):=by
 simp [Ctx.up,UpD.then]
theorem Ctx.UpOk.then {C:Ctx} {u v:UpD} (h:C.UpOk u) (k:(C.up u).UpOk v):C.UpOk (u.then v) where
 mks:=fun B hB=>by
  rcases List.mem_append.1 hB with hB | hB
  ·exact k.mks B hB
  ·obtain ⟨h1,h2⟩:=h.mks B hB
   exact ⟨k.k0 B h1,(k.keep B h1).trans h2⟩
 new:=fun B hB=>by
  rcases List.mem_append.1 hB with hB | hB
  ·obtain ⟨h1,h2⟩:=k.new B hB
   exact ⟨fun h3=>h1 (h.k0 B h3),Nat.le_trans h.size h2⟩
  ·exact h.new B hB
 nd:=List.nodup_append.2 ⟨k.nd,h.nd,fun a ha b hb e=>(k.new a ha).1 (e ▸ (h.mks b hb).1)⟩
 k0:=fun r hr=>k.k0 r (h.k0 r hr)
 keep:=fun r hr=>(k.keep r (h.k0 r hr)).trans (h.keep r hr)
 size:=Nat.le_trans h.size k.size
 calm:=h.calm.trans k.calm
theorem noPool {sh:Shape} (h:sh.blks.any (fun p=>p.2.isPool)=false) (σ:sh.Den) (r:Nat):¬PId (sh.st σ).blk r:=fun ⟨e,m,xs,h1,_⟩=>by
 rcases lookB_cases gId sh.blks (slotsL gId sh.slots σ).2 POOLN with ⟨k,_⟩ | ⟨q,k1,k2,R,z,k3⟩
 ·have k:(sh.st σ).blk POOLN=_:=k
  rw [k] at h1;cases h1
 ·have k3:(sh.st σ).blk POOLN=_:=k3
  rw [k3] at h1
  have hqp:q.2.isPool=true:=by
   obtain ⟨q1,q2⟩:=q
   cases q2<;>first | rfl | cases h1
  have:=List.any_eq_false.1 h q k1
  exact this hqp
theorem RelK.rebaseF {C:Ctx} {s:AState} {a:Act} {w:World} {κ:Nat→KB} {F F':Nat→Prop} (h:RelK C s a w κ F) {w0 w':World} {F0 K0:Nat→Prop} {nt:Nat} {dfr:List Deferred} {r:Option Nat} {sl:Nat→AV} {a':Act}
    (htsz:a'.tmps.size=nt) (hdfr:a'.defers=dfr) (hnt:nt≤TMAX) (hsl:∀ i,RA C.P s.blk κ F w (sl i) (a'.tmps.getD i undef)) (hno:∀ l A L n st,sl TRS≠.tr l A L n st)
    (heq:∀ r,F r∨(∃ b,(s.blk b).body.owned (κ b)=true∧(κ b).blk=r)→w'.heap[r]?=w.heap[r]?) (hsz:w.heap.size≤w'.heap.size)
    (hF:∀ r,F r→F' r) (hfs:∀ r,F' r→r<w'.heap.size) (hdis:∀ b,(s.blk b).body.owned (κ b)=true→¬F' (κ b).blk)
    (hflo:∀ r,F' r→F0 r∨¬K0 r) (hfhi:∀ r,F0 r→F' r) (hksz:∀ r,K0 r→r<w0.heap.size) (hkeep:∀ r,K0 r→w'.heap[r]?=w0.heap[r]?) (hown:∀ b,(s.blk b).body.owned (κ b)=true→¬K0 (κ b).blk)
    (hs0:w0.heap.size≤w'.heap.size) (hc:Calm w0 w') (hnp:∀ r,¬PId s.blk r) :
    RelK { C with w0:=w0,F0:=F0,K0:=K0,nt:=nt,dfr:=dfr,r:=r } ⟨sl,s.blk⟩ a' w' κ F':=by
  have he:Ext F w w':=⟨hsz,fun r hr=>heq r (.inl hr)⟩
  exact { tsz := htsz, dfr := hdfr, slots := fun i => RA.later (Later.refl _ _) hF he (hsl i)
          blks:=fun b=>HB.other (h.blks b) (Later.refl _ _) hF he rfl rfl fun ho=>heq _ (.inr ⟨b,ho,rfl⟩)
          own:=fun b hb=>⟨Nat.lt_of_lt_of_le (h.own b hb).1 hsz,hdis b hb,hown b hb⟩,inj:=h.inj,fsz:=hfs
          flo:=hflo,fhi:=hfhi,ksz:=hksz,keep:=hkeep,size:=hs0,calm:=hc,nsz:=hnt,aran:=h.aran,anch:=h.anch,ara:=h.ara,anA:=h.anA,pro:=fun l A L n st e=>(hno l A L n st e).elim,pool:=fun e m hm=>⟨(h.pool e m hm).1,fun id xs hx=>(hnp id ⟨e,m,xs,hm,hx⟩).elim⟩,ftok:=h.ftok,glob:=h.glob.mono hF he }
theorem RelK.rebase {C:Ctx} {s:AState} {a:Act} {w:World} {κ:Nat→KB} {F:Nat→Prop} (h:RelK C s a w κ F) {w0 w':World} {F0 K0:Nat→Prop} {nt:Nat} {dfr:List Deferred} {r:Option Nat} {sl:Nat→AV} {a':Act}
  (htsz:a'.tmps.size=nt) (hdfr:a'.defers=dfr) (hnt:nt≤TMAX) (hsl:∀ i,RA C.P s.blk κ F w (sl i) (a'.tmps.getD i undef)) (hno:∀ l A L n st,sl TRS≠.tr l A L n st)
  (heq:∀ r,F r∨(∃ b,(s.blk b).body.owned (κ b)=true∧(κ b).blk=r)→w'.heap[r]?=w.heap[r]?) (hsz:w.heap.size≤w'.heap.size)
  (hflo:∀ r,F r→F0 r∨¬K0 r) (hfhi:∀ r,F0 r→F r) (hksz:∀ r,K0 r→r<w0.heap.size) (hkeep:∀ r,K0 r→w'.heap[r]?=w0.heap[r]?) (hown:∀ b,(s.blk b).body.owned (κ b)=true→¬K0 (κ b).blk)
  (hs0:w0.heap.size≤w'.heap.size) (hc:Calm w0 w') (hnp:∀ r,¬PId s.blk r) :
  RelK { C with w0:=w0,F0:=F0,K0:=K0,nt:=nt,dfr:=dfr,r:=r } ⟨sl,s.blk⟩ a' w' κ F:=
 h.rebaseF htsz hdfr hnt hsl hno heq hsz (fun _ h=>h) (fun r hr=>Nat.lt_of_lt_of_le (h.fsz r hr) hsz) (fun b hb=>(h.own b hb).2.1) hflo hfhi hksz hkeep hown hs0 hc hnp
theorem RelK.rebase2 {C:Ctx} {s:AState} {a:Act} {w:World} {κ:Nat→KB} {F:Nat→Prop} (h:RelK C s a w κ F) {w0 w':World} {K0:Nat→Prop} {r:Option Nat}
    (hK:∀ r,K0 r→C.K0 r) (heq:∀ r,F r∨¬C.K0 r→w'.heap[r]?=w.heap[r]?) (hsz:w.heap.size≤w'.heap.size) (hcw:Calm w w')
    (hksz:∀ r,K0 r→r<w0.heap.size) (hkeep:∀ r,K0 r→w'.heap[r]?=w0.heap[r]?) (hs0:w0.heap.size≤w'.heap.size) (hc:Calm w0 w') :
    RelK { C with w0:=w0,K0:=K0,r:=r } s a w' κ F:=by
  have he:Ext F w w':=⟨hsz,fun r hr=>heq r (.inl hr)⟩
  have hfs:∀ r,F r→r<w'.heap.size:=fun r hr=>Nat.lt_of_lt_of_le (h.fsz r hr) hsz
  exact { tsz := h.tsz, dfr := h.dfr, slots := fun i => RA.later (Later.refl _ _) (fun _ h => h) he (h.slots i)
          blks:=fun b=>HB.other (h.blks b) (Later.refl _ _) (fun _ h=>h) he rfl rfl fun ho=>heq _ (.inr (h.own b ho).2.2)
          own:=fun b hb=>⟨Nat.lt_of_lt_of_le (h.own b hb).1 hsz,(h.own b hb).2.1,fun k=>(h.own b hb).2.2 (hK _ k)⟩,inj:=h.inj,fsz:=hfs
          flo:=fun r hr=>(h.flo r hr).imp id fun k k'=>k (hK r k'),fhi:=h.fhi,ksz:=hksz,keep:=hkeep,size:=hs0,calm:=hc,nsz:=h.nsz,aran:=h.aran,anch:=h.anch,ara:=h.ara,anA:=h.anA
          pro:=fun l A L n st e=>by
            obtain ⟨h1,h2,Y,h3,h4,h5⟩:=h.pro l A L n st e
            exact ⟨h1,h2,Y,fun r hr=>⟨Nat.lt_of_lt_of_le (h3 r hr).1 hsz,(h3 r hr).2.1,fun k=>(h3 r hr).2.2 (hK r k)⟩,h4,h2.stabAt h5 (fun _ h=>h) (fun r hr=>heq r (hr.imp id fun hy=>(h3 r hy).2.2)) hsz hcw hfs fun r hf hy=>(h3 r hy).2.1 hf⟩
          pool:=fun e m hm=>⟨(h.pool e m hm).1,fun id xs hx=>by
            obtain ⟨q0,q1,q2,q3,q4,q5⟩:=(h.pool e m hm).2 id xs hx
            exact ⟨q0,Nat.lt_of_lt_of_le q1 hsz,q2,fun k=>q3 (hK _ k),q4,q5.mono (fun _ h=>h) he (heq id (.inr q3))⟩⟩
          ftok:=h.ftok,glob:=h.glob.mono (fun _ h=>h) he }
theorem setPs_ok {P:Program} {H:Nat→ABlk} {κ:Nat→KB} {F:Nat→Prop} {w:World} {A:Ty} {x:A.Den}:∀ (ps:List Tmp) (args:List Value) (j:Nat) (f:Nat→AV) (tm:Array Value),ps.length=args.length→(∀ p∈ps,p<tm.size)→
  (∀ i,RA P H κ F w (f i) (tm.getD i undef))→(∀ i,i<args.length→RA P H κ F w (resAV A x (j+i)) (args.getD i undef))→
  ∀ i,RA P H κ F w (setPs A x ps j f i) (((ps.zip args).foldl (fun tmps p=>tmps.setIfInBounds p.1 p.2) tm).getD i undef)
 | [],[],_,_,_,_,_,hf,_,i=>hf i
 | p::ps,v::args,j,f,tm,hl,hp,hf,hv,i=>by
  simp only [setPs,List.zip_cons_cons,List.foldl_cons]
  refine setPs_ok ps args (j+1) _ _ (by simpa using hl) (fun q hq=>by simpa using hp q (List.mem_cons_of_mem _ hq)) (fun i=>?_) (fun i hi=>?_) i
  ·rw [Array.getD_eq_getD_getElem?,Array.getElem?_setIfInBounds]
   by_cases e:i=p
   ·subst e
    rw [if_pos rfl,if_pos rfl,if_pos (hp i (by simp))]
    simpa using hv 0 (by simp)
   ·rw [if_neg e,if_neg (Ne.symm e)]
    rw [←Array.getD_eq_getD_getElem?]
    exact hf i
  ·have:=hv (i+1) (by simpa using hi)
   rw [show j+(i+1)=j+1+i by omega] at this
   simpa using this
theorem setPs_size {ps:List Tmp} {args:List Value}:∀ {tm:Array Value},((ps.zip args).foldl (fun tmps p=>tmps.setIfInBounds p.1 p.2) tm).size=tm.size:=by
 generalize ps.zip args=l
 induction l with
 | nil=>intro tm;rfl
 | cons p l ih=>intro tm;simp only [List.foldl_cons];rw [ih];simp
end Go.Fer
namespace Go.Fer
open Go.RowKit
def jumpOf:Ex→Option Code
 | .normal=>none
 | .exit id=>some (.exit id)
 | .ret=>some .ret
def lrec (fn:FuncId) (tm:Array Value) (ps:Array Tmp) (assign body:Code) (B:Nat) (st:LoopState) (e:Ex):Loop:=
 { state:=st,pending:=jumpOf e,fn:=fn,tmps:=tm,params:=ps,assign:=assign,body:=body,defers:=B }
def RoundWalk (P:Program) (ft:FnTab) (nt:Nat) (assign body:Code) (l:Nat) {rout:Shape} (run:AState→M (Ex×rout.Den)):Prop:=
 ∀ (C1:Ctx),C1.P=P→C1.ft=ft→C1.nt=nt→C1.r=some l→∀ (s1:AState) (a1:Act) (w1:World) (O1:Ex×rout.Den→Prop),Rel C1 s1 a1 w1→M.Ret (run s1) O1→
  assign.wpIn (rnd (some l)) 0 P (Exit.then (fun a2 w2=>∃ u s2,C1.UpOk u∧Rel (C1.up u) s2 a2 w2∧
   ∀ (C2:Ctx),C2.P=P→C2.ft=ft→C2.nt=nt→C2.r=some l→∀ (w2:World),Rel C2 s2 a2 w2→
    body.wpIn (rnd (some l)) 0 P (fun e a3 w3=>∃ (e':Ex) (v:UpD) (s3:AState) (τ:rout.Den),e=e'.the∧C2.UpOk v∧Rel (C2.up v) s3 a3 w3∧rout.rd s3=some τ∧O1 (e',τ)) a2 w2) (fun _ _ _=>False)) a1 w1
theorem look_empty {ts:List (Nat×TAV)} {R:Type} (h:ts.isEmpty=true) (g:Nat→Nat×Nat) (z:slotDen ts R) (i:Nat):look (slotsL g ts z).1 i=.undef:=by
 cases ts with
 | nil=>rfl
 | cons p ts=>cases h
theorem roundPost_of {P:Program} {l:Nat} {R:Ending→World→Prop} {e:Ex} {a:Act} {w:World} {r:Loop} (h:w.heap[l]?=some (.loop r))
  (hR:R (.returned (.bool (jumpOf e).isNone)) (w.putObj l (.loop { r with state:=if (jumpOf e).isNone then .ready else .done,pending:=jumpOf e }))):roundPost P l R e.the a w:=by
 cases e with
 | normal=>exact ⟨_,_,run_endRound none h,hR⟩
 | exit id=>exact ⟨_,_,run_endRound (some (.exit id)) h,hR⟩
 | ret=>exact ⟨_,_,run_endRound (some .ret) h,hR⟩
theorem round_ok {CI:Ctx} {sh rin rout:Shape} {A:Ty} {ps:Array Tmp} {assign body:Code} {a:Act} {W:World} {κ:Nat→KB} {F:Nat→Prop} {σ:sh.Den} {fn:FuncId} {l B:Nat} {x:A.Den} {args:List Value} {run:AState→M (Ex×rout.Den)}
  {Or:Ex×sh.Den→Prop} {Y Z:Nat→Prop} (hZ:Z l)
  (hr:RelK CI (sh.st σ) a W κ F) (hck:rangeOk sh rout A ps.toList a.tmps.size=true) (hwalk:RoundWalk CI.P CI.ft a.tmps.size assign body l run) (hm:M.Ret (roundI sh rin rout A ps.toList σ x run) Or)
  (hl:W.heap[l]?=some (.loop (lrec fn a.tmps ps assign body B .ready .normal))) (hlF:¬F l) (hlo:∀ b,((sh.st σ).blk b).body.owned (κ b)=true→Y (κ b).blk∧¬Z (κ b).blk) (hargs:RArgs CI.P A F W args x) :
  ∃ tmps,(Instr.yield l args.toArray).run CI.P W=.ok (.round l fn tmps assign body) W∧RoundIn Fence.wide 0 CI.P l fn tmps assign body W fun e W'=>
   ∃ (e0:Ex) (σ':sh.Den) (κ':Nat→KB) (F':Nat→Prop) (o:Obj),e=.returned (.bool (jumpOf e0).isNone)∧Or (e0,σ')∧W'.heap[l]?=some (.loop (lrec fn a.tmps ps assign body B (if (jumpOf e0).isNone then .ready else .done) e0))∧
    RelK { CI with w0:=W.putObj l o,F0:=F,K0:=fun r=>r<W.heap.size∧(Z r∨¬Y r) } (sh.st σ') a W' κ' F':=by
 simp only [rangeOk,Bool.and_eq_true,decide_eq_true_eq,Bool.not_eq_true',List.all_eq_true] at hck
 obtain ⟨⟨⟨⟨⟨k1,k6,k7⟩,k2⟩,k3⟩,k4⟩,k5⟩:=hck
 have hlsz:l<W.heap.size:=(Array.getElem?_eq_some_iff.1 hl).1
 obtain ⟨hal,hav⟩:=args_ok (H:=(sh.st σ).blk) (κ:=κ) A hargs k3
 have hno:(sh.st σ).slot TRS=.undef:=look_none sh.slots gId σ TRS k2
 have hfold:(Array.zip ps args.toArray).foldl (fun tmps (x:Tmp×Value)=>match x with | (t,a)=>tmps.setIfInBounds t a) a.tmps=(ps.toList.zip args).foldl (fun tmps p=>tmps.setIfInBounds p.1 p.2) a.tmps:=by
  rw [←Array.foldl_toList]
  simp
 refine ⟨(ps.toList.zip args).foldl (fun tmps p=>tmps.setIfInBounds p.1 p.2) a.tmps,?_,?_⟩
 ·rw [←hfold]
  exact run_yield hl (by show args.toArray.size=ps.size;simp [hal,←k4])
 have hry:RelK { CI with w0:=W,F0:=F,K0:=fun r=>r<W.heap.size∧(Z r∨¬Y r) } (sh.st σ) a W κ F:=
  hr.rebase hr.tsz hr.dfr hr.nsz hr.slots (fun l A L n st e=>by have e:(sh.st σ).slot TRS=.tr l A L n st:=e;rw [hno] at e;cases e) (fun _ _=>rfl) (Nat.le_refl _) (fun _ h=>.inl h) (fun _ h=>h) (fun _ h=>h.1) (fun _ _=>rfl)
   (fun b hb h=>h.2.elim (hlo b hb).2 fun h=>h (hlo b hb).1) (Nat.le_refl _) (Calm.refl _) (noPool k7 σ)
 unfold roundI at hm
 split at hm
 ·rename_i ρ fl hρ
  split at hm
  ·rename_i hok
   rw [M.ret_bind] at hm
   have hr1:RelK { CI with w0:=W,F0:=F,K0:=fun r=>r<W.heap.size∧(Z r∨¬Y r),nt:=a.tmps.size,dfr:=[],r:=none } ⟨(roundSt (sh.st σ) A x ps.toList).slot,(sh.st σ).blk⟩ { tmps:=(ps.toList.zip args).foldl (fun tmps p=>tmps.setIfInBounds p.1 p.2) a.tmps,defers:=[] } W κ F:=by
    refine hr.rebase setPs_size rfl (by rw [hr.tsz];exact hr.nsz) (fun i=>?_) (fun l' A' L' n' st' e=>?_) (fun _ _=>rfl) (Nat.le_refl _) (fun _ h=>.inl h) (fun _ h=>h) (fun _ h=>h.1) (fun _ _=>rfl)
     (fun b hb h=>h.2.elim (hlo b hb).2 fun h=>h (hlo b hb).1) (Nat.le_refl _) (Calm.refl _) (noPool k7 σ)
    ·show RA CI.P (sh.st σ).blk κ F W (if i=TRS then (sh.st σ).slot TRS else setPs A x ps.toList 0 (sh.st σ).slot i) _
     split
     ·rw [hno];trivial
     ·exact setPs_ok ps.toList args 0 _ _ (by rw [k4,hal]) (fun p hp=>by simpa using k5 p hp) hr.slots (fun i hi=>by rw [Nat.zero_add];exact hav i (by omega)) i
    ·have e:(if TRS=TRS then (sh.st σ).slot TRS else setPs A x ps.toList 0 (sh.st σ).slot TRS)=.tr l' A' L' n' st':=e
     rw [if_pos rfl,hno] at e
     cases e
   obtain ⟨F',own,Y',an,f1,hr',hown,hY',htr,hcal,hlv⟩:=io_core (c:=roundIO rin rout) hry hr1 (by simp [roundSt]) hρ rfl hok
   have hKl:l<W.heap.size∧(Z l∨¬Y l):=⟨hlsz,.inl hZ⟩
   have hF'l:¬F' l:=fun h=>(hr'.flo l h).elim hlF fun h=>h hKl
   have howl:¬own l:=fun h=>by
    rcases hown l h with ⟨b,h1,h2⟩ | hp
    ·exact (hr'.own b h1).2.2 (h2 ▸ hKl)
    ·exact (hr'.pool.pid hp).2.2.2.1 hKl
   have hYl:¬Y' l:=fun h=>(hY'.low l h).2.2 hKl
   have hK1:l<W.heap.size∧¬own l∧¬Y' l:=⟨hlsz,howl,hYl⟩
   have hc1:RelK { ioC CI W F' a.tmps.size own Y' an with r:=some l } (rin.st ρ) _ W _ F':=hcal.rebase2 (w0:=W) (w':=W) (K0:=fun r=>r<W.heap.size∧¬own r∧¬Y' r) (r:=some l) (fun _ h=>h) (fun _ _=>rfl) (Nat.le_refl _) (Calm.refl _) (fun _ h=>h.1) (fun _ _=>rfl) (Nat.le_refl _) (Calm.refl _)
   refine roundIn_of_wpIn trivial ?_
   refine wpIn_mono (hwalk { ioC CI W F' a.tmps.size own Y' an with r:=some l } rfl rfl rfl rfl (rin.st ρ) _ W _ ⟨_,_,hc1⟩ hm) fun e a2 w2 hq=>?_
   cases e with
   | normal=>
    obtain ⟨u,s2,hu,⟨κ2,F2,hr2⟩,hbody⟩:=hq
    have hul:u.K l:=hu.k0 l hK1
    have hl2:w2.heap[l]?=some (.loop (lrec fn a.tmps ps assign body B .ready .normal)):=(hr2.keep l hul).trans ((hu.keep l hK1).trans hl)
    refine ⟨_,run_beginRound hl2 rfl,?_⟩
    have hl2s:l<w2.heap.size:=(Array.getElem?_eq_some_iff.1 hl2).1
    have hF2l:¬F2 l:=fun h=>(hr2.flo l h).elim hF'l fun h=>h hul
    have hc2:=hr2.rebase2 (w0:=w2.putObj l (.loop (lrec fn a.tmps ps assign body B .busy .normal))) (w':=w2.putObj l (.loop (lrec fn a.tmps ps assign body B .busy .normal))) (K0:=u.K) (r:=some l) (fun _ h=>h)
     (fun r h=>World.putObj_heap_other fun e=>by
      subst e
      exact h.elim hF2l fun h=>h hul) (by simp) ⟨rfl,rfl,rfl⟩ (fun r h=>by
       have:=hr2.ksz r h;have:=hr2.size
       simp;omega) (fun _ _=>rfl) (Nat.le_refl _) (Calm.refl _)
    refine wpIn_mono (hbody { ({ ioC CI W F' a.tmps.size own Y' an with r:=some l }:Ctx).up u with w0:=w2.putObj l (.loop (lrec fn a.tmps ps assign body B .busy .normal)),K0:=u.K,r:=some l } rfl rfl rfl rfl _ ⟨κ2,F2,hc2⟩) fun e a3 w3 ⟨e',v,s3,τ,he,hv,⟨κ3,F3,hr3⟩,hτ,hO⟩=>?_
    subst he
    obtain ⟨κ3,F4,f4,hr4⟩:=Shape.rd_okK hτ hr3
    have hvl:v.K l:=hv.k0 l hul
    have hl3:w3.heap[l]?=some (.loop (lrec fn a.tmps ps assign body B .busy .normal)):=(hr4.keep l hvl).trans ((hv.keep l hul).trans (World.putObj_heap_same hl2s))
    have hl3s:l<w3.heap.size:=(Array.getElem?_eq_some_iff.1 hl3).1
    have hF4l:¬F4 l:=fun h=>(hr4.flo l h).elim hF'l fun h=>h hvl
    generalize hst:(if (jumpOf e').isNone then LoopState.ready else .done)=st'
    refine roundPost_of hl3 ?_
    rw [hst]
    have hb1:RelK { CI with w0:=W.putObj l (.loop (lrec fn a.tmps ps assign body B st' e')),F0:=F,K0:=fun r=>r<W.heap.size∧(Z r∨¬Y r) } ((sh.st σ).frz fl) a (W.putObj l (.loop (lrec fn a.tmps ps assign body B st' e'))) κ F':=
     hr'.rebase2 (fun _ h=>h) (fun r h=>World.putObj_heap_other fun e=>by
      subst e
      exact h.elim hF'l fun h=>h hKl) (by simp) ⟨rfl,rfl,rfl⟩ (fun r h=>by simpa using h.1) (fun _ _=>rfl) (Nat.le_refl _) (Calm.refl _)
    have hwsz:W.heap.size≤w3.heap.size:=by
     have h1:=hu.size;have h2:=hr2.size;have h3:=hv.size;have h4:=hr4.size
     have h1:W.heap.size≤u.w.heap.size:=h1
     have h2:u.w.heap.size≤w2.heap.size:=h2
     have h3:(w2.putObj l (.loop (lrec fn a.tmps ps assign body B .busy .normal))).heap.size≤v.w.heap.size:=h3
     have h4:v.w.heap.size≤w3.heap.size:=h4
     simp only [World.putObj_size] at h3
     omega
    have hcalm:Calm W w3:=by
     have h1:Calm W u.w:=hu.calm
     have h2:Calm u.w w2:=hr2.calm
     have h3:Calm w2 v.w:=⟨hv.calm.os,hv.calm.tape,hv.calm.output⟩
     exact h1.trans (h2.trans (h3.trans hr4.calm))
    have hempty:∀ i,(rout.st τ).slot i=.undef:=fun i=>look_empty k1 gId τ i
    have hcv:∀ r,(r<(W.putObj l (.loop (lrec fn a.tmps ps assign body B st' e'))).heap.size∧¬own r∧¬Y' r)→(r<W.heap.size∧¬own r∧¬Y' r):=fun r h=>⟨by simpa using h.1,h.2⟩
    have hret:=hr4.rebase (w0:=W.putObj l (.loop (lrec fn a.tmps ps assign body B st' e'))) (w':=w3.putObj l (.loop (lrec fn a.tmps ps assign body B st' e'))) (F0:=F') (K0:=fun r=>r<(W.putObj l (.loop (lrec fn a.tmps ps assign body B st' e'))).heap.size∧¬own r∧¬Y' r) (nt:=0) (dfr:=[]) (r:=none) (sl:=(rout.st τ).slot) (a':={ tmps:=#[],defers:=[] }) rfl rfl (Nat.zero_le _)
     (fun i=>by rw [hempty];trivial) (fun l A L n st e=>by rw [hempty] at e;cases e)
     (fun r h=>World.putObj_heap_other fun e=>by
      subst e
      rcases h with h | ⟨b,h1,h2⟩
      ·exact hF4l h
      ·exact (hr4.own b h1).2.2 (h2 ▸ hvl)) (by simp) (fun r h=>(hr4.flo r h).imp id fun h h'=>h (hv.k0 r (hu.k0 r (hcv r h')))) hr4.fhi (fun r h=>h.1)
     (fun r h=>by
      by_cases e:r=l
      ·subst e
       rw [World.putObj_heap_same hl3s,World.putObj_heap_same hlsz]
      ·rw [World.putObj_heap_other e,World.putObj_heap_other e]
       have h1:u.K r:=hu.k0 r (hcv r h)
       exact (hr4.keep r (hv.k0 r h1)).trans ((hv.keep r h1).trans ((World.putObj_heap_other e).trans ((hr2.keep r h1).trans (hu.keep r (hcv r h))))))
     (fun b hb h=>(hr4.own b hb).2.2 (hv.k0 _ (hu.k0 _ (hcv _ h)))) (by simpa using hwsz) ⟨hcalm.os,hcalm.tape,hcalm.output⟩ (noPool k6 τ)
    obtain ⟨κn,hfin,_⟩:=hlv (W.putObj l (.loop (lrec fn a.tmps ps assign body B st' e'))) (W.putObj l (.loop (lrec fn a.tmps ps assign body B st' e'))) hb1 ⟨fun l' A' L' n' st' e=>(by
      have:=htr l' A' L' n' st' e
      rw [hno] at this
      cases this),fun r h=>⟨by simpa using (hY'.low r h).1,(hY'.low r h).2⟩,hY'.own,hY'.non,hY'.pool⟩ τ [] (w3.putObj l (.loop (lrec fn a.tmps ps assign body B st' e'))) κ3 F4 hret
    obtain ⟨σ',hσ',hO'⟩:=rdM_ret hO
    obtain ⟨κn,F5,_,hr5⟩:=Shape.rd_okK hσ' hfin
    exact ⟨e',σ',κn,F5,(.loop (lrec fn a.tmps ps assign body B st' e')),rfl,M.ret_pure.1 hO',by rw [hst];exact World.putObj_heap_same hl3s,hr5⟩
   | _=>exact hq.elim
  ·exact hm.1.elim
 ·exact hm.1.elim
theorem heap_alloc2 {w:World} {o o':Obj} {r:Nat} (h:r<w.heap.size):((w.alloc o).alloc o').heap[r]?=w.heap[r]?:=
 (heap_alloc_lt _ _ (by simp;omega)).trans (heap_alloc_lt _ _ h)
def RoundInv (C CI:Ctx) {β:Type} (sh rin rout:Shape) (A:Ty) (D:List A.Den→Prop) (ps:Array Tmp) (assign body:Code) (a:Act) (fn:FuncId) (l B:Nat) (run:AState→M (Ex×rout.Den)) (k:Ex→AState→M β) (O:β→Prop)
  (st:Bool) (F Y:Nat→Prop) (W:World):Prop:=
 ∃ (e:Ex) (σ:sh.Den) (κ:Nat→KB),RelK CI (sh.st σ) a W κ F∧W.heap[l]?=some (.loop (lrec fn a.tmps ps assign body B (if st then .done else .ready) e))∧W.heap[B]?=some (.deferred (some []))∧
  (∀ b,((sh.st σ).blk b).body.owned (κ b)=true→Y (κ b).blk∧¬((κ b).blk=l∨(κ b).blk=B))∧Y l∧Y B∧¬F l∧¬F B∧C.P=CI.P∧
  (st=false→e=.normal∧∀ R,D R→M.Ret (rounds (fun σ y=>roundI sh rin rout A ps.toList σ y run) R σ) fun p=>M.Ret (k p.1 (sh.st p.2)) O)∧(st=true→e≠.normal∧M.Ret (k e (sh.st σ)) O)
theorem roundInv_ok {C CI:Ctx} {β:Type} {sh rin rout:Shape} {A:Ty} {S:List A.Den→Prop} {ps:Array Tmp} {assign body:Code} {a:Act} {fn:FuncId} {l B:Nat} {run:AState→M (Ex×rout.Den)} {k:Ex→AState→M β} {O:β→Prop}
  (hK:CI.K0=fun _=>False) (hnB:l≠B) (hck:rangeOk sh rout A ps.toList a.tmps.size=true) (hwalk:RoundWalk CI.P CI.ft a.tmps.size assign body l run) :
  POk CI.P (RArgs CI.P A) l S fun pre=>RoundInv C CI sh rin rout A (fun R=>S (pre++R)) ps assign body a fn l B run k O where
 stab:=fun {pre st F F' Y w w'} h hF heq hsz hc' hfs hdis=>by
  have hc:Calm w w':=⟨hc'.1,hc'.2.1,hc'.2.2⟩
  obtain ⟨e,σ,κ,hr,h1,h2,h3,h4,h5,h6,h7,h8,h9⟩:=h
  have hno:(sh.st σ).slot TRS=.undef:=by
   simp only [rangeOk,Bool.and_eq_true,Bool.not_eq_true'] at hck
   exact look_none sh.slots gId σ TRS hck.1.1.1.2
  have hK':∀ r,CI.K0 r→False:=fun r h=>by rw [hK] at h;exact h
  have hnp:∀ (σ:sh.Den) r,¬PId (sh.st σ).blk r:=fun σ=>by
   simp only [rangeOk,Bool.and_eq_true,Bool.not_eq_true'] at hck
   exact noPool hck.1.1.1.1.2.2 σ
  refine ⟨e,σ,κ,?_,(heq l (.inr h4)).trans h1,(heq B (.inr h5)).trans h2,h3,h4,h5,fun h=>hdis l h h4,fun h=>hdis B h h5,h8,h9⟩
  exact hr.rebaseF hr.tsz hr.dfr hr.nsz hr.slots (fun l' A' L' n' st' e=>by have e:(sh.st σ).slot TRS=.tr l' A' L' n' st':=e;rw [hno] at e;cases e)
   (fun r hr'=>heq r (hr'.imp id fun ⟨b,hb,e⟩=>e ▸ (h3 b hb).1)) hsz hF hfs (fun b hb hf=>hdis _ hf (h3 b hb).1) (fun r _=>.inr (hK' r)) (fun r h=>hF r (hr.fhi r h)) (fun r h=>(hK' r h).elim) (fun r h=>(hK' r h).elim) (fun b _=>hK' _)
   (Nat.le_trans hr.size hsz) (hr.calm.trans hc) (hnp σ)
 yield:=fun {pre F Y w args x} h hfs hYs hx hargs=>by
  obtain ⟨T0,hT0⟩:=hx
  obtain ⟨e,σ,κ,hr,h1,h2,h3,h4,h5,h6,h7,h8,h9,_⟩:=h
  obtain ⟨rfl,hm⟩:=h9 rfl
  have hno:∀ σ:sh.Den,(sh.st σ).slot TRS=.undef:=fun σ=>by
   simp only [rangeOk,Bool.and_eq_true,Bool.not_eq_true'] at hck
   exact look_none sh.slots gId σ TRS hck.1.1.1.2
  have hK':∀ r,CI.K0 r→False:=fun r h=>by rw [hK] at h;exact h
  have hnp:∀ (σ:sh.Den) r,¬PId (sh.st σ).blk r:=fun σ=>by
   simp only [rangeOk,Bool.and_eq_true,Bool.not_eq_true'] at hck
   exact noPool hck.1.1.1.1.2.2 σ
  have hm:M.Ret (roundI sh rin rout A ps.toList σ x run) fun p=>∀ T,S (pre++x::T)→M.Ret (match p.1 with
    | .normal=>rounds (fun σ y=>roundI sh rin rout A ps.toList σ y run) T p.2
    | .exit id=>M.pure (.exit id,p.2)
    | .ret=>M.pure (.ret,p.2)) fun p=>M.Ret (k p.1 (sh.st p.2)) O:=by
   have h1:=fun T hT=>M.ret_bind.1 (hm (x::T) hT)
   exact ⟨(h1 T0 hT0).1,fun y hy T hT=>(h1 T hT).2 y hy⟩
  obtain ⟨tmps,hy,hround⟩:=round_ok (Z:=fun r=>r=l∨r=B) (.inl rfl) hr hck hwalk hm h1 h6 h3 hargs
  refine ⟨fn,tmps,assign,body,hy,hround.mono fun e' W' ⟨e0,σ',κ',F',o,he,hO,hl',hr'⟩=>?_⟩
  have hlsz:l<w.heap.size:=(hYs l h4).1
  have hBsz:B<w.heap.size:=(hYs B h5).1
  have g1:∀ r,F r→F' r:=hr'.fhi
  have g2:∀ r,F' r→F r∨Y r∨w.heap.size≤r:=fun r hr2=>by
   rcases hr'.flo r hr2 with h | h
   ·exact .inl h
   ·by_cases hlt:r<w.heap.size
    ·by_cases hy:Y r
     ·exact .inr (.inl hy)
     ·exact (h ⟨hlt,.inr hy⟩).elim
    ·exact .inr (.inr (Nat.le_of_not_lt hlt))
  have gZ:∀ r,r<w.heap.size→¬F r→(r=l∨r=B)→¬F' r:=fun r hlt hf hz hf'=>(hr'.flo r hf').elim hf fun h=>h ⟨hlt,.inl hz⟩
  have gl:¬F' l:=gZ l hlsz h6 (.inl rfl)
  have gB:¬F' B:=gZ B hBsz h7 (.inr rfl)
  have gown:∀ b,((sh.st σ').blk b).body.owned (κ' b)=true→¬((κ' b).blk=l∨(κ' b).blk=B)∧(Y (κ' b).blk∨w.heap.size≤(κ' b).blk):=fun b hb=>by
   have hk:=(hr'.own b hb).2.2
   by_cases hlt:(κ' b).blk<w.heap.size
   ·refine ⟨fun hz=>hk ⟨hlt,.inl hz⟩,.inl ?_⟩
    by_cases hy:Y (κ' b).blk
    ·exact hy
    ·exact (hk ⟨hlt,.inr hy⟩).elim
   ·exact ⟨fun hz=>by rcases hz with hz | hz<;>rw [hz] at hlt<;>exact hlt (by assumption),.inr (Nat.le_of_not_lt hlt)⟩
  have gsz:w.heap.size≤W'.heap.size:=by have:=hr'.size;simpa using this
  have gc:Calm w W':=⟨hr'.calm.os,hr'.calm.tape,hr'.calm.output⟩
  have hassoc:∀ T,pre++[x]++T=pre++x::T:=fun T=>by simp
  refine ⟨(jumpOf e0).isNone,F',fun r=>(∃ b,((sh.st σ').blk b).body.owned (κ' b)=true∧(κ' b).blk=r)∨r=l∨r=B,he,g1,g2,hr'.fsz,fun r hlt hy=>?_,fun r hr2=>?_,gsz,⟨gc.os,gc.tape,gc.output⟩,?_⟩
  ·have hne:r≠l:=fun e=>hy (e ▸ h4)
   exact (hr'.keep r ⟨hlt,.inr hy⟩).trans (World.putObj_heap_other hne)
  ·rcases hr2 with ⟨b,hb,rfl⟩ | rfl | rfl
   ·exact ⟨(gown b hb).2,(hr'.own b hb).1,(hr'.own b hb).2.1⟩
   ·exact ⟨.inl h4,Nat.lt_of_lt_of_le hlsz gsz,gl⟩
   ·exact ⟨.inl h5,Nat.lt_of_lt_of_le hBsz gsz,gB⟩
  ·refine ⟨e0,σ',κ',?_,?_,?_,fun b hb=>⟨.inl ⟨b,hb,rfl⟩,(gown b hb).1⟩,.inr (.inl rfl),.inr (.inr rfl),gl,gB,h8,fun hst=>?_,fun hst=>?_⟩
   ·exact hr'.rebase hr'.tsz hr'.dfr hr'.nsz hr'.slots (fun l' A' L' n' st' e=>by have e:(sh.st σ').slot TRS=.tr l' A' L' n' st':=e;rw [hno] at e;cases e) (fun _ _=>rfl) (Nat.le_refl _) (fun r _=>.inr (hK' r)) (fun r h=>g1 r (hr.fhi r h))
     (fun r h=>(hK' r h).elim) (fun r h=>(hK' r h).elim) (fun b _=>hK' _) (Nat.le_trans hr.size gsz) (hr.calm.trans gc) (hnp σ')
   ·rw [hl']
    cases e0<;>rfl
   ·exact (hr'.keep B ⟨hBsz,.inl (.inr rfl)⟩).trans ((World.putObj_heap_other (Ne.symm hnB)).trans h2)
   ·cases e0 with
    | normal=>exact ⟨rfl,fun T hT=>hO T (by have hT:S (pre++[x]++T):=hT;rwa [hassoc] at hT)⟩
    | _=>cases hst
   ·cases e0 with
    | normal=>cases hst
    | exit id=>exact ⟨by simp,(hO T0 hT0).2 _ rfl⟩
    | ret=>exact ⟨by simp,(hO T0 hT0).2 _ rfl⟩
theorem proto_of {P:Program} {l:Nat} {A:Ty} {S:List A.Den→Prop} {I:List A.Den→Bool→(Nat→Prop)→(Nat→Prop)→World→Prop} (h:POk P (RArgs P A) l S I):Proto.Ok P ⟨l,A,S,I⟩ where
 stab:=fun h1 h2 h3 h4 h5 h6 h7=>h.stab h1 h2 h3 h4 ⟨h5.os,h5.tape,h5.output⟩ h6 h7
 yield:=fun h1 h2 h3 h4 h5=>YieldAt.mono (h.yield h1 h2 h3 h4 h5) fun _ _ ⟨b,F',Y',k1,k2,k3,k4,k5,k6,k7,k8,k9⟩=>⟨b,F',Y',k1,k2,k3,k4,k5,k6,k7,⟨k8.1,k8.2.1,k8.2.2⟩,k9⟩
end Go.Fer
namespace Go.Fer
open Go.RowKit
theorem range_ok {C:Ctx} (hr0:C.r=none) {β:Type} {s:AState} {a:Act} {w:World} (hr:Rel C s a w) {g:Operand} {ps:Array Tmp} {assign body:Code} {kf n:Nat} {fs:Nat→AV} (hg:opAV C.ft s.slot g=.bnd kf n fs) {ic:ITC} (hIt:ItSpec C.P kf ic)
    {x:ic.ts.Den} {fl:List Nat} (hx:(asArgs ic.ts ((List.range n).map fs)).run s.blk=some (x,fl)) {sh rin rout:Shape} (hck:rangeOk sh rout ic.A ps.toList C.nt=true) {σ0:sh.Den} (hσ:sh.rd (s.frz fl)=some σ0) (hpre:ic.pre x)
    {run:AState→M (Ex×rout.Den)} {k:Ex→AState→M β} {O:β→Prop} (hm:M.Ret (rounds (fun σ y=>roundI sh rin rout ic.A ps.toList σ y run) (ic.seq x) σ0) fun p=>M.Ret (k p.1 (sh.st p.2)) O)
    (hwalk:∀ l,RoundWalk C.P C.ft C.nt assign body l run) {Q:Exit→Act→World→Prop}
    (hk:∀ u,C.UpOk u→∀ e s' a' w',Rel (C.up u) s' a' w'→M.Ret (k e s') O→Q e.the a' w'):(Code.rangeFunc g ps assign body).wpIn (rnd C.r) 0 C.P Q a w:=by
  obtain ⟨κ,F,hr⟩:=hr
  obtain ⟨F1,f1,hr1,f2⟩:=RelK.frzL (asArgs_closed _ hx) hr
  obtain ⟨κ,F2,f3,hr2⟩:=Shape.rd_okK hσ hr1
  have hv:=opAV_ok hr g
  rw [hg] at hv
  obtain ⟨vs,hv1,hv2,hv3⟩:=hv
  have hargs0:RArgs C.P ic.ts F1 w vs x:=asArgs_ok hr.blks f1 ic.ts hx f2 (by simp [hv2]) fun i hi hi'=>by
    have:=hv3 i (by omega)
    rw [List.getD_eq_getElem?_getD,List.getElem?_eq_getElem hi'] at this
    simpa using this
  have hno:∀ σ:sh.Den,(sh.st σ).slot TRS=.undef:=fun σ=>by
    simp only [rangeOk,Bool.and_eq_true,Bool.not_eq_true'] at hck
    exact look_none sh.slots gId σ TRS hck.1.1.1.2
  have hnp:∀ (σ:sh.Den) r,¬PId (sh.st σ).blk r:=fun σ=>by
    simp only [rangeOk,Bool.and_eq_true,Bool.not_eq_true'] at hck
    exact noPool hck.1.1.1.1.2.2 σ
  rw [hr0]
  refine wpIn_rangeFunc fun fn _=>?_
  have hB:w.heap.size<((w.alloc (.deferred (some []))).alloc (.loop (lrec fn a.tmps ps assign body w.heap.size .ready .normal))).heap.size:=by simp;try omega
  have hl:w.heap.size+1<((w.alloc (.deferred (some []))).alloc (.loop (lrec fn a.tmps ps assign body w.heap.size .ready .normal))).heap.size:=by simp;try omega
  have hlobj:((w.alloc (.deferred (some []))).alloc (.loop (lrec fn a.tmps ps assign body w.heap.size .ready .normal))).heap[w.heap.size+1]?=some (.loop (lrec fn a.tmps ps assign body w.heap.size .ready .normal)):=by
    have:=heap_alloc_new (w.alloc (.deferred (some []))) (.loop (lrec fn a.tmps ps assign body w.heap.size .ready .normal))
    simpa using this
  have hBobj:((w.alloc (.deferred (some []))).alloc (.loop (lrec fn a.tmps ps assign body w.heap.size .ready .normal))).heap[w.heap.size]?=some (.deferred (some [])):=
    (heap_alloc_lt _ _ (by simp)).trans (heap_alloc_new w _)
  have hlow:∀ r,r<w.heap.size→((w.alloc (.deferred (some []))).alloc (.loop (lrec fn a.tmps ps assign body w.heap.size .ready .normal))).heap[r]?=w.heap[r]?:=fun r h=>heap_alloc2 h
  have henter:(Instr.enterLoop fn a.tmps ps assign body none).run C.P w=.ok (w.heap.size+1,[markD w.heap.size]) ((w.alloc (.deferred (some []))).alloc (.loop (lrec fn a.tmps ps assign body w.heap.size .ready .normal))):=run_enterLoop_outer fn a.tmps ps assign body
  have hcw:Calm w ((w.alloc (.deferred (some []))).alloc (.loop (lrec fn a.tmps ps assign body w.heap.size .ready .normal))):=⟨rfl,rfl,rfl⟩
  have hsz1:((w.alloc (.deferred (some []))).alloc (.loop (lrec fn a.tmps ps assign body w.heap.size .ready .normal))).heap.size=w.heap.size+2:=by simp
  generalize (w.alloc (.deferred (some []))).alloc (.loop (lrec fn a.tmps ps assign body w.heap.size .ready .normal))=w1 at hB hl hlobj hBobj hlow henter hcw hsz1
  have hext:Ext F2 w w1:=⟨by omega,fun r h=>hlow r (hr2.fsz r h)⟩
  have hargs:RArgs C.P ic.ts F2 w1 vs x:=(hargs0.mono f3 (Ext.refl _ _)).mono (fun _ h=>h) hext
  have hI:RelK { C with w0:=w1,F0:=F2,K0:=fun _=>False } (sh.st σ0) a w1 κ F2:=
    hr2.rebase hr2.tsz hr2.dfr hr2.nsz hr2.slots (fun l' A' L' n' st' e=>by have e:(sh.st σ0).slot TRS=.tr l' A' L' n' st':=e;rw [hno] at e;cases e)
      (fun r h=>hlow r (by
        rcases h with h | ⟨b,hb,rfl⟩
        · exact hr2.fsz r h
        · exact (hr2.own b hb).1)) (by omega) (fun _ h=>.inl h) (fun _ h=>h) (fun _ h=>h.elim) (fun _ h=>h.elim) (fun _ _ h=>h) (Nat.le_refl _) (Calm.refl _) (hnp σ0)
  have hproto:=proto_of (roundInv_ok (S:=fun T=>T=ic.seq x) (C:=C) (CI:={ C with w0:=w1,F0:=F2,K0:=fun _=>False }) (sh:=sh) (rin:=rin) (rout:=rout) (ps:=ps) (assign:=assign) (body:=body) (a:=a) (fn:=fn) (l:=w.heap.size+1) (B:=w.heap.size) (run:=run) (k:=k) (O:=O)
    rfl (by omega) (by rw [hr.tsz];exact hck) (by rw [hr.tsz];exact hwalk _))
  have hsl:∀ b,((sh.st σ0).blk b).body.owned (κ b)=true→¬((κ b).blk=w.heap.size+1∨(κ b).blk=w.heap.size):=fun b hb h=>by
    have:=(hr2.own b hb).1
    omega
  have hcall:=hIt.calls (w.heap.size+1) _ F2 (fun r=>(∃ b,((sh.st σ0).blk b).body.owned (κ b)=true∧(κ b).blk=r)∨r=w.heap.size+1∨r=w.heap.size) w1 vs x hargs hpre hproto (fun r h=>hI.fsz r h) hI.glob
    (fun r h=>by
      rcases h with ⟨b,hb,rfl⟩ | rfl | rfl
      · exact ⟨(hI.own b hb).1,(hI.own b hb).2.1⟩
      · exact ⟨hl,fun h=>by have:=hr2.fsz _ h;omega⟩
      · exact ⟨hB,fun h=>by have:=hr2.fsz _ h;omega⟩)
    ⟨.normal,σ0,κ,hI,hlobj,hBobj,fun b hb=>⟨.inl ⟨b,hb,rfl⟩,hsl b hb⟩,.inr (.inl rfl),.inr (.inr rfl),fun h=>by have:=hr2.fsz _ h;omega,fun h=>by have:=hr2.fsz _ h;omega,rfl,fun _=>⟨rfl,fun R hR=>by have hR:[]++R=ic.seq x:=hR;rw [show R=ic.seq x from hR];exact hm⟩,fun h=>by cases h⟩
  refine ⟨w.heap.size+1,[markD w.heap.size],w1,{ target:=.fn (.func kf) #[],args:=vs.toArray++#[.func (.yield (w.heap.size+1)) #[] #[]] },w1,kf,(vs++[Value.func (.yield (w.heap.size+1)) #[] #[]]).toArray,w1,henter,?_,fun _ _=>trivial,?_,fun h=>(by cases h),callsIn_wide.2 (hcall.mono fun e w3 ⟨v,n',st,F',Y',he,hst,hinv,g1,g2,g3,g4,g5,g6,g7⟩=>?_)⟩
  · have e:a.eval (.const (.func (.yield (w.heap.size+1)) #[] #[]))=.func (.yield (w.heap.size+1)) #[] #[]:=rfl
    simp [resolve,hv1,Deferred.ofValue,e]
  · have:=hIt.enter (vs++[Value.func (.yield (w.heap.size+1)) #[] #[]]).toArray w1
    simpa [invoke] using this
  subst he
  obtain ⟨e,σ,κ',hr3,h1,h2,h3,h4,h5,h6,h7,_,h8,h9⟩:=hinv
  refine ⟨jumpOf e,_,run_endLoop h1 (by cases st<;>simp [lrec]),?_⟩
  have hl3:w.heap.size+1<w3.heap.size:=(Array.getElem?_eq_some_iff.1 h1).1
  generalize hob:Obj.loop _=ob
  have hret:M.Ret (k e (sh.st σ)) O:=by
    cases st with
    | true=>exact (h9 rfl).2
    | false=>
      obtain ⟨rfl,hm'⟩:=h8 rfl
      exact (hm' [] (show n'++[]=ic.seq x by rw [hst rfl,List.append_nil])).2 _ rfl
  have hK0:∀ r,C.K0 r→r<w.heap.size:=fun r h=>Nat.lt_of_lt_of_le (hr.ksz r h) hr.size
  have hkeep:∀ r,C.K0 r→(w3.putObj (w.heap.size+1) ob).heap[r]?=C.w0.heap[r]?:=fun r h=>by
    have hlt:=hK0 r h
    rw [World.putObj_heap_other (by omega),g4 r (by omega) fun hy=>?_,hlow r hlt]
    · exact hr.keep r h
    · rcases hy with ⟨b,hb,rfl⟩ | rfl | rfl
      · exact (hr2.own b hb).2.2 h
      · omega
      · omega
  have hcalm:Calm C.w0 (w3.putObj (w.heap.size+1) ob):=by
    have:=(hr.calm.trans hcw).trans g7
    exact ⟨this.os,this.tape,this.output⟩
  have hup:C.UpOk ⟨w3.putObj (w.heap.size+1) ob,fun r=>C.K0 r∨r=w.heap.size,[w.heap.size]⟩:=
    { mks := fun B hB => by
        have:B=w.heap.size:=by simpa using hB
        subst this
        exact ⟨.inr rfl,(World.putObj_heap_other (by omega)).trans h2⟩
      new:=fun B hB=>by
        have:B=w.heap.size:=by simpa using hB
        subst this
        exact ⟨fun h=>by have:=hK0 _ h;omega,hr.size⟩
      nd:=by simp
      k0:=fun _ h=>.inl h
      keep:=hkeep
      size:=by have:=hr.size;simp;omega
      calm:=hcalm }
  have hfin:Rel (C.up ⟨w3.putObj (w.heap.size+1) ob,fun r=>C.K0 r∨r=w.heap.size,[w.heap.size]⟩) (sh.st σ) { a with defers:=[markD w.heap.size]++a.defers } (w3.putObj (w.heap.size+1) ob):=by
    have hF'lo:∀ r,F' r→C.F0 r∨¬(C.K0 r∨r=w.heap.size):=fun r hr'=>by
      rcases g2 r hr' with h | h | h
      · rcases hr2.flo r h with h' | h'
        · exact .inl h'
        · exact .inr fun hk=>hk.elim h' fun e=>by have:=hr2.fsz r h;omega
      · rcases h with ⟨b,hb,rfl⟩ | rfl | rfl
        · exact .inr fun hk=>hk.elim (hr2.own b hb).2.2 fun e=>hsl b hb (.inr e)
        · exact (h6 hr').elim
        · exact (h7 hr').elim
      · exact .inr fun hk=>hk.elim (fun h'=>by have:=hK0 r h';omega) fun e=>by omega
    refine ⟨κ',F',hr3.rebase (r:=C.r) hr3.tsz (by show [markD w.heap.size]++a.defers=_;rw [hr.dfr];rfl) hr3.nsz hr3.slots (fun l' A' L' n' st' e=>by have e:(sh.st σ).slot TRS=.tr l' A' L' n' st':=e;rw [hno] at e;cases e)
      (fun r h=>World.putObj_heap_other fun e=>by
        subst e
        rcases h with h | ⟨b,hb,h⟩
        · exact h6 h
        · exact (h3 b hb).2 (.inl h)) (by simp) hF'lo (fun r h=>g1 r (hr2.fhi r h)) (fun r h=>?_) (fun _ _=>rfl) (fun b hb h=>?_) (Nat.le_refl _) (Calm.refl _) (hnp σ)⟩
    · simp only [World.putObj_size]
      rcases h with h | h
      · have:=hK0 r h;omega
      · omega
    · rcases h with h | h
      · rcases (g5 _ (h3 b hb).1).1 with hy | hy
        · rcases hy with ⟨b',hb',e⟩ | e | e
          · exact (hr2.own b' hb').2.2 (e ▸ h)
          · exact (h3 b hb).2 (.inl e)
          · exact (h3 b hb).2 (.inr e)
        · have:=hK0 _ h;omega
      · exact (h3 b hb).2 (.inr h)
  have hq:=hk _ hup e _ _ _ hfin hret
  cases e with
  | normal=>exact hq
  | exit id=>exact wpIn_exit hq
  | ret=>exact wpIn_ret hq
theorem range_it_ok {C:Ctx} (hr0:C.r=none) {β:Type} {s:AState} {a:Act} {w:World} (hr:Rel C s a w) {g:Operand} {ps:Array Tmp} {assign body:Code} {A:Ty} {S:List A.Den→Prop} (hg:opAV C.ft s.slot g=.val (.it A) S)
    {sh rin rout:Shape} (hck:rangeOk sh rout A ps.toList C.nt=true) {σ0:sh.Den} (hσ:sh.rd s=some σ0) (hne:∃ L,S L)
    {run:AState→M (Ex×rout.Den)} {k:Ex→AState→M β} {O:β→Prop} (hm:∀ L,S L→M.Ret (rounds (fun σ y=>roundI sh rin rout A ps.toList σ y run) L σ0) fun p=>M.Ret (k p.1 (sh.st p.2)) O)
    (hwalk:∀ l,RoundWalk C.P C.ft C.nt assign body l run) {Q:Exit→Act→World→Prop}
    (hk:∀ u,C.UpOk u→∀ e s' a' w',Rel (C.up u) s' a' w'→M.Ret (k e s') O→Q e.the a' w'):(Code.rangeFunc g ps assign body).wpIn (rnd C.r) 0 C.P Q a w:=by
  obtain ⟨κ,F,hr⟩:=hr
  obtain ⟨κ,F2,f3,hr2⟩:=Shape.rd_okK hσ hr
  have hv:=opAV_ok hr g
  rw [hg] at hv
  have hv1:=RC_mono _ f3 (Ext.refl _ _) ((RV_leaf rfl).1 hv).2
  simp only [RC] at hv1
  obtain ⟨u,hu,_,hits⟩:=hv1
  have hu:=(List.cons.inj hu).1
  have hno:∀ σ:sh.Den,(sh.st σ).slot TRS=.undef:=fun σ=>by
    simp only [rangeOk,Bool.and_eq_true,Bool.not_eq_true'] at hck
    exact look_none sh.slots gId σ TRS hck.1.1.1.2
  have hnp:∀ (σ:sh.Den) r,¬PId (sh.st σ).blk r:=fun σ=>by
    simp only [rangeOk,Bool.and_eq_true,Bool.not_eq_true'] at hck
    exact noPool hck.1.1.1.1.2.2 σ
  rw [hr0]
  refine wpIn_rangeFunc fun fn _=>?_
  have hB:w.heap.size<((w.alloc (.deferred (some []))).alloc (.loop (lrec fn a.tmps ps assign body w.heap.size .ready .normal))).heap.size:=by simp;try omega
  have hl:w.heap.size+1<((w.alloc (.deferred (some []))).alloc (.loop (lrec fn a.tmps ps assign body w.heap.size .ready .normal))).heap.size:=by simp;try omega
  have hlobj:((w.alloc (.deferred (some []))).alloc (.loop (lrec fn a.tmps ps assign body w.heap.size .ready .normal))).heap[w.heap.size+1]?=some (.loop (lrec fn a.tmps ps assign body w.heap.size .ready .normal)):=by
    have:=heap_alloc_new (w.alloc (.deferred (some []))) (.loop (lrec fn a.tmps ps assign body w.heap.size .ready .normal))
    simpa using this
  have hBobj:((w.alloc (.deferred (some []))).alloc (.loop (lrec fn a.tmps ps assign body w.heap.size .ready .normal))).heap[w.heap.size]?=some (.deferred (some [])):=
    (heap_alloc_lt _ _ (by simp)).trans (heap_alloc_new w _)
  have hlow:∀ r,r<w.heap.size→((w.alloc (.deferred (some []))).alloc (.loop (lrec fn a.tmps ps assign body w.heap.size .ready .normal))).heap[r]?=w.heap[r]?:=fun r h=>heap_alloc2 h
  have henter:(Instr.enterLoop fn a.tmps ps assign body none).run C.P w=.ok (w.heap.size+1,[markD w.heap.size]) ((w.alloc (.deferred (some []))).alloc (.loop (lrec fn a.tmps ps assign body w.heap.size .ready .normal))):=run_enterLoop_outer fn a.tmps ps assign body
  have hcw:Calm w ((w.alloc (.deferred (some []))).alloc (.loop (lrec fn a.tmps ps assign body w.heap.size .ready .normal))):=⟨rfl,rfl,rfl⟩
  have hsz1:((w.alloc (.deferred (some []))).alloc (.loop (lrec fn a.tmps ps assign body w.heap.size .ready .normal))).heap.size=w.heap.size+2:=by simp
  generalize (w.alloc (.deferred (some []))).alloc (.loop (lrec fn a.tmps ps assign body w.heap.size .ready .normal))=w1 at hB hl hlobj hBobj hlow henter hcw hsz1
  have hext:Ext F2 w w1:=⟨by omega,fun r h=>hlow r (hr2.fsz r h)⟩
  have hI:RelK { C with w0:=w1,F0:=F2,K0:=fun _=>False } (sh.st σ0) a w1 κ F2:=
    hr2.rebase hr2.tsz hr2.dfr hr2.nsz hr2.slots (fun l' A' L' n' st' e=>by have e:(sh.st σ0).slot TRS=.tr l' A' L' n' st':=e;rw [hno] at e;cases e)
      (fun r h=>hlow r (by
        rcases h with h | ⟨b,hb,rfl⟩
        · exact hr2.fsz r h
        · exact (hr2.own b hb).1)) (by omega) (fun _ h=>.inl h) (fun _ h=>h) (fun _ h=>h.elim) (fun _ h=>h.elim) (fun _ _ h=>h) (Nat.le_refl _) (Calm.refl _) (hnp σ0)
  have hproto:=roundInv_ok (S:=S) (C:=C) (CI:={ C with w0:=w1,F0:=F2,K0:=fun _=>False }) (sh:=sh) (rin:=rin) (rout:=rout) (ps:=ps) (assign:=assign) (body:=body) (a:=a) (fn:=fn) (l:=w.heap.size+1) (B:=w.heap.size) (run:=run) (k:=k) (O:=O)
    rfl (by omega) (by rw [hr.tsz];exact hck) (by rw [hr.tsz];exact hwalk _)
  have hsl:∀ b,((sh.st σ0).blk b).body.owned (κ b)=true→¬((κ b).blk=w.heap.size+1∨(κ b).blk=w.heap.size):=fun b hb h=>by
    have:=(hr2.own b hb).1
    omega
  obtain ⟨kf,caps,hkf,hent,hcalls⟩:=hits F2 w1 (fun _ h=>h) hext (fun r h=>hI.fsz r h) hI.glob hne
  have hcall:=hcalls (w.heap.size+1) _ (fun r=>(∃ b,((sh.st σ0).blk b).body.owned (κ b)=true∧(κ b).blk=r)∨r=w.heap.size+1∨r=w.heap.size)
    (fun r h=>by
      rcases h with ⟨b,hb,rfl⟩ | rfl | rfl
      · exact ⟨(hI.own b hb).1,(hI.own b hb).2.1⟩
      · exact ⟨hl,fun h=>by have:=hr2.fsz _ h;omega⟩
      · exact ⟨hB,fun h=>by have:=hr2.fsz _ h;omega⟩)
    hproto ⟨.normal,σ0,κ,hI,hlobj,hBobj,fun b hb=>⟨.inl ⟨b,hb,rfl⟩,hsl b hb⟩,.inr (.inl rfl),.inr (.inr rfl),fun h=>by have:=hr2.fsz _ h;omega,fun h=>by have:=hr2.fsz _ h;omega,rfl,fun _=>⟨rfl,fun R hR=>hm R hR⟩,fun h=>by cases h⟩
  refine ⟨w.heap.size+1,[markD w.heap.size],w1,{ target:=.fn (.func kf) caps,args:=#[.func (.yield (w.heap.size+1)) #[] #[]] },w1,kf,#[Value.func (.yield (w.heap.size+1)) #[] #[]]++caps,w1,henter,?_,fun _ _=>trivial,?_,fun h=>(by cases h),callsIn_wide.2 (hcall.mono fun e w3 ⟨v,pre,st,F',Y',he,hst,hinv,g1,g2,g3,g4,g5,g6,g7'⟩=>?_)⟩
  · have e:a.eval (.const (.func (.yield (w.heap.size+1)) #[] #[]))=.func (.yield (w.heap.size+1)) #[] #[]:=rfl
    simp [resolve,hu,hkf,Deferred.ofValue,e]
  · have:=hent (#[Value.func (.yield (w.heap.size+1)) #[] #[]]++caps) w1
    simpa [invoke] using this
  have g7:Calm w1 w3:=⟨g7'.1,g7'.2.1,g7'.2.2⟩
  subst he
  obtain ⟨e,σ,κ',hr3,h1,h2,h3,h4,h5,h6,h7,_,h8,h9⟩:=hinv
  refine ⟨jumpOf e,_,run_endLoop h1 (by cases st<;>simp [lrec]),?_⟩
  have hl3:w.heap.size+1<w3.heap.size:=(Array.getElem?_eq_some_iff.1 h1).1
  generalize hob:Obj.loop _=ob
  have hret:M.Ret (k e (sh.st σ)) O:=by
    cases st with
    | true=>exact (h9 rfl).2
    | false=>
      obtain ⟨rfl,hm'⟩:=h8 rfl
      exact (hm' [] (show S (pre++[]) by rw [List.append_nil];exact hst rfl)).2 _ rfl
  have hK0:∀ r,C.K0 r→r<w.heap.size:=fun r h=>Nat.lt_of_lt_of_le (hr.ksz r h) hr.size
  have hkeep:∀ r,C.K0 r→(w3.putObj (w.heap.size+1) ob).heap[r]?=C.w0.heap[r]?:=fun r h=>by
    have hlt:=hK0 r h
    rw [World.putObj_heap_other (by omega),g4 r (by omega) fun hy=>?_,hlow r hlt]
    · exact hr.keep r h
    · rcases hy with ⟨b,hb,rfl⟩ | rfl | rfl
      · exact (hr2.own b hb).2.2 h
      · omega
      · omega
  have hcalm:Calm C.w0 (w3.putObj (w.heap.size+1) ob):=by
    have:=(hr.calm.trans hcw).trans g7
    exact ⟨this.os,this.tape,this.output⟩
  have hup:C.UpOk ⟨w3.putObj (w.heap.size+1) ob,fun r=>C.K0 r∨r=w.heap.size,[w.heap.size]⟩:=
    { mks := fun B hB => by
        have:B=w.heap.size:=by simpa using hB
        subst this
        exact ⟨.inr rfl,(World.putObj_heap_other (by omega)).trans h2⟩
      new:=fun B hB=>by
        have:B=w.heap.size:=by simpa using hB
        subst this
        exact ⟨fun h=>by have:=hK0 _ h;omega,hr.size⟩
      nd:=by simp
      k0:=fun _ h=>.inl h
      keep:=hkeep
      size:=by have:=hr.size;simp;omega
      calm:=hcalm }
  have hfin:Rel (C.up ⟨w3.putObj (w.heap.size+1) ob,fun r=>C.K0 r∨r=w.heap.size,[w.heap.size]⟩) (sh.st σ) { a with defers:=[markD w.heap.size]++a.defers } (w3.putObj (w.heap.size+1) ob):=by
    have hF'lo:∀ r,F' r→C.F0 r∨¬(C.K0 r∨r=w.heap.size):=fun r hr'=>by
      rcases g2 r hr' with h | h | h
      · rcases hr2.flo r h with h' | h'
        · exact .inl h'
        · exact .inr fun hk=>hk.elim h' fun e=>by have:=hr2.fsz r h;omega
      · rcases h with ⟨b,hb,rfl⟩ | rfl | rfl
        · exact .inr fun hk=>hk.elim (hr2.own b hb).2.2 fun e=>hsl b hb (.inr e)
        · exact (h6 hr').elim
        · exact (h7 hr').elim
      · exact .inr fun hk=>hk.elim (fun h'=>by have:=hK0 r h';omega) fun e=>by omega
    refine ⟨κ',F',hr3.rebase (r:=C.r) hr3.tsz (by show [markD w.heap.size]++a.defers=_;rw [hr.dfr];rfl) hr3.nsz hr3.slots (fun l' A' L' n' st' e=>by have e:(sh.st σ).slot TRS=.tr l' A' L' n' st':=e;rw [hno] at e;cases e)
      (fun r h=>World.putObj_heap_other fun e=>by
        subst e
        rcases h with h | ⟨b,hb,h⟩
        · exact h6 h
        · exact (h3 b hb).2 (.inl h)) (by simp) hF'lo (fun r h=>g1 r (hr2.fhi r h)) (fun r h=>?_) (fun _ _=>rfl) (fun b hb h=>?_) (Nat.le_refl _) (Calm.refl _) (hnp σ)⟩
    · simp only [World.putObj_size]
      rcases h with h | h
      · have:=hK0 r h;omega
      · omega
    · rcases h with h | h
      · rcases (g5 _ (h3 b hb).1).1 with hy | hy
        · rcases hy with ⟨b',hb',e⟩ | e | e
          · exact (hr2.own b' hb').2.2 (e ▸ h)
          · exact (h3 b hb).2 (.inl e)
          · exact (h3 b hb).2 (.inr e)
        · have:=hK0 _ h;omega
      · exact (h3 b hb).2 (.inr h)
  have hq:=hk _ hup e _ _ _ hfin hret
  cases e with
  | normal=>exact hq
  | exit id=>exact wpIn_exit hq
  | ret=>exact wpIn_ret hq
end Go.Fer
namespace Go.Fer
open Go.RowKit
open M (Step)
section
variable {F:Fence} {n:Nat} {P:Program} {Q:Exit→Act→World→Prop} {a:Act} {w:World}
theorem wpIn_loop_safe {c:Code} {σT β:Type} {body:σT→M (Step σT β)} {O:β→Prop} (I:σT→Act→World→Prop)
  (round:∀ σ a w,I σ a w→(body σ).safe→(∀ r,(body σ).out (.done r)→O r)→c.wpIn F n P (Exit.then (fun a' w'=>∃ σ',(body σ).out (.next σ')∧I σ' a' w') Q) a w)
  {σ:σT} (hs:M.LoopSafe body σ) (ho:∀ r,M.LoopOut body σ r→O r) (hI:I σ a w):(Code.loop c).wpIn F n P Q a w:=by
 intro b k cs hro hb hr
 have key:∀ σ,M.LoopSafe body σ→(∀ r,M.LoopOut body σ r→O r)→∀ a w,I σ a w→
   ∃ e a' w',Q e a' w'∧ArrivesIn (Machine.fenced P F) P (lone (b.atR a (.code c::.inLoop c::k)) cs w) b k cs e a' w':=by
  intro σ hs
  induction hs with
  | mk σ h _ ih=>
   intro ho a w hI
   obtain ⟨e,a₁,w₁,hq,harr⟩:=round σ a w hI h (fun r hr=>ho r (.done _ _ hr)) b (.inLoop c::k) cs hro hb hr
   cases e with
   | normal=>
    obtain ⟨σ',hout,hI₁⟩:=hq
    obtain ⟨e₂,a₂,w₂,hq₂,harr₂⟩:=ih σ' hout (fun r hr=>ho r (.next _ _ _ hout hr)) a₁ w₁ hI₁
    exact ⟨e₂,a₂,w₂,hq₂,.of_steps (StepsIn.trans harr (.one (fenced_calm hb hr rfl) stepR_inLoop)) harr₂⟩
   | exit id=>exact ⟨_,a₁,w₁,hq,.pass (x:=.inLoop c) rfl (fun _ _=>.inl (by simp)) harr⟩
   | goto l=>exact ⟨_,a₁,w₁,hq,.pass (x:=.inLoop c) rfl (fun _ _=>.inl (by simp)) harr⟩
   | ret=>exact ⟨_,a₁,w₁,hq,.pass (x:=.inLoop c) rfl (fun _ _=>.inl (by simp)) harr⟩
   | panic ch=>exact ⟨_,a₁,w₁,hq,.pass (x:=.inLoop c) rfl (fun _ _=>.inl (by simp)) harr⟩
   | outgrown=>exact ⟨_,a₁,w₁,hq,.pass (x:=.inLoop c) rfl (fun _ _=>.inl (by simp)) harr⟩
 obtain ⟨e,a',w',hq,harr⟩:=key σ hs ho a w hI
 exact ⟨e,a',w',hq,.of_steps (.one (fenced_calm hb hr rfl) stepR_loop) harr⟩
theorem and_second {p q:Prop} (hq:q) (h:q→p):p∧q:=⟨h hq,hq⟩
def loopAt (F:Fence) (n:Nat) (P:Program) (c:Code) (Q:Exit→Act→World→Prop) (a:Act) (w:World):Prop:=
 ∀ (b:Frame) (k:List Item) (cs:List Frame),b.roundOf=F.round→F.fn b.fn→F.room (cs.length+1+n)→
  ∃ e a' w',Q e a' w'∧ArrivesIn (Machine.fenced P F) P (lone (b.atR a (.code c::.inLoop c::k)) cs w) b k cs e a' w'
theorem wpIn_loop_at {c:Code} (h:loopAt F n P c Q a w):(Code.loop c).wpIn F n P Q a w:=fun b k cs hro hb hr=>by
 obtain ⟨e,a',w',hq,harr⟩:=h b k cs hro hb hr
 exact ⟨e,a',w',hq,.of_steps (.one (fenced_calm hb hr rfl) stepR_loop) harr⟩
theorem loopAt_peel {c:Code} (h:c.wpIn F n P (Exit.then (fun a' w'=>loopAt F n P c Q a' w') Q) a w):loopAt F n P c Q a w:=fun b k cs hro hb hr=>by
 obtain ⟨e,a₁,w₁,hq,harr⟩:=h b (.inLoop c::k) cs hro hb hr
 cases e with
 | normal=>
  obtain ⟨e₂,a₂,w₂,hq₂,harr₂⟩:=hq b k cs hro hb hr
  exact ⟨e₂,a₂,w₂,hq₂,.of_steps (StepsIn.trans harr (.one (fenced_calm hb hr rfl) stepR_inLoop)) harr₂⟩
 | exit id=>exact ⟨_,a₁,w₁,hq,.pass (x:=.inLoop c) rfl (fun _ _=>.inl (by simp)) harr⟩
 | goto l=>exact ⟨_,a₁,w₁,hq,.pass (x:=.inLoop c) rfl (fun _ _=>.inl (by simp)) harr⟩
 | ret=>exact ⟨_,a₁,w₁,hq,.pass (x:=.inLoop c) rfl (fun _ _=>.inl (by simp)) harr⟩
 | panic ch=>exact ⟨_,a₁,w₁,hq,.pass (x:=.inLoop c) rfl (fun _ _=>.inl (by simp)) harr⟩
 | outgrown=>exact ⟨_,a₁,w₁,hq,.pass (x:=.inLoop c) rfl (fun _ _=>.inl (by simp)) harr⟩
theorem stepR_scope {b:Frame} {k:List Item} {cs:List Frame} {c:Code}:step P (lone (b.atR a (.code (.scope c)::k)) cs w)=.next (lone (b.atR a (.code c::.inScope c::k)) cs w):=
 step_lone_go (by simp [stepG,stepG.exec,Frame.atR])
theorem stepR_inScope {b:Frame} {k:List Item} {cs:List Frame} {c:Code}:step P (lone (b.atR a (.inScope c::k)) cs w)=.next (lone (b.atR a k) cs w):=
 step_lone_go (by simp [stepG,stepG.exec,Frame.atR])
theorem wpIn_scope {c:Code} (h:c.wpIn F n P (Exit.noGoto Q) a w):(Code.scope c).wpIn F n P Q a w:=by
 intro b k cs hro hb hr
 have h0:(lone (b.atR a (.code (.scope c)::k)) cs w).fenced P F:=fenced_calm hb hr rfl
 obtain ⟨e,a₁,w₁,hq,harr⟩:=h b (.inScope c::k) cs hro hb hr
 cases e with
 | normal=>exact ⟨.normal,a₁,w₁,hq,.head h0 stepR_scope (StepsIn.trans harr (.one (fenced_calm hb hr rfl) stepR_inScope))⟩
 | exit id=>
  have hx:exitTo id (.inScope c::k)=exitTo id k:=by simp [exitTo]
  exact ⟨.exit id,a₁,w₁,hq,fun k' hk=>.head h0 stepR_scope (harr.1 k' (by rw [hx];exact hk)),fun hr' hk=>let ⟨k₁,h1,h2⟩:=harr.2 hr' (by rw [hx];exact hk);⟨k₁,h1,.head h0 stepR_scope h2⟩⟩
 | goto l=>exact hq.elim
 | ret=>exact ⟨.ret,a₁,w₁,hq,.of_steps (.one h0 stepR_scope) harr⟩
 | panic ch=>exact ⟨.panic ch,a₁,w₁,hq,.of_steps (.one h0 stepR_scope) harr⟩
 | outgrown=>exact ⟨.outgrown,a₁,w₁,hq,.of_steps (.one h0 stepR_scope) harr⟩
end
section
variable {T:Nat→Ty} {Φ:Nat→Option FC} {Ψ:Nat→Option KC}
def StepOut {σ β:Type} (m:M (Step σ β)) (O:β→Prop) (st:Step σ β):Prop:=
 match st with
 | .next s=>m.out (.next s)
 | .done r=>O r
theorem codeI_both:∀ (ann:Ann),(∀ (C:Ctx) (_:C.P.follows .mixedOrders=true) (_:TabOk C.P T) (_:CtrOk C.P Φ) (_:PsiOk C.P C.ft Ψ) (_:C.r=none∨ann.flat=true) {β:Type} (c:Code) (s:AState) (k:Ex→AState→M β) (O:β→Prop) (Q:Exit→Act→World→Prop) (a:Act) (w:World),
  codeOk C.nt c=true→Rel C s a w→M.Ret (codeI C.ft T Φ Ψ ann c s k) O→(∀ u,C.UpOk u→∀ e s' a' w',Rel (C.up u) s' a' w'→M.Ret (k e s') O→Q e.the a' w')→c.wpIn (rnd C.r) 0 C.P Q a w)∧(ann.isUnr=true→∀ (C:Ctx) (_:C.P.follows .mixedOrders=true) (_:TabOk C.P T) (_:CtrOk C.P Φ) (_:PsiOk C.P C.ft Ψ) (_:C.r=none∨ann.flat=true) {β:Type} (c:Code) (s:AState) (k:Ex→AState→M β) (O:β→Prop) (Q:Exit→Act→World→Prop) (a:Act) (w:World),
  codeOk C.nt c=true→Rel C s a w→M.Ret (codeI C.ft T Φ Ψ ann (.loop c) s k) O→(∀ u,C.UpOk u→∀ e s' a' w',Rel (C.up u) s' a' w'→M.Ret (k e s') O→Q e.the a' w')→loopAt (rnd C.r) 0 C.P c Q a w):=by
 intro ann
 induction ann with
 | leaf=>
  refine ⟨?_,fun _ C hmix hT hΦ hΨ hfl β c s k O Q a w hc hr hm hk=>by unfold codeI at hm;exact (ret_fail hm).elim⟩
  intro C hmix hT hΦ hΨ hfl β c s k O Q a w hc hr hm hk
  unfold codeI at hm
  split at hm
  ·rename_i id ops draw
   cases draw with
   | true=>exact draw_ok hmix hT (dPhi_ok hΦ hΨ) hΨ (fun o ho=>List.all_eq_true.1 hc o ho) (fun s' a' w' hr' hm'=>hk C.same C.upSame .normal s' a' w' hr' hm') hr hm
   | false=>
    refine wpIn_region ?_
    have:=regI_ok (Q:=Q) (ops:=ops) hT hΦ hΨ (fun o ho=>List.all_eq_true.1 hc o ho) (k:=k .normal) (O:=O) (fun s' a' w' hr' hm'=>hk C.same C.upSame .normal s' a' w' hr' hm') ops.toList 0 [] s a w (by simp) (fun p hp=>by cases hp) hr hm
    rw [List.range_eq_range']
    simpa using this
  ·exact wpIn_skip (hk C.same C.upSame .normal s a w hr hm)
  ·exact wpIn_label (hk C.same C.upSame .normal s a w hr hm)
  ·exact wpIn_exit (hk C.same C.upSame (.exit _) s a w hr hm)
  ·exact wpIn_ret (hk C.same C.upSame .ret s a w hr hm)
  ·exact (ret_fail hm).elim
 | seq x y ihx ihy=>
  have ihx:=ihx.1
  have ihy:=ihy.1
  refine ⟨?_,fun h=>by simp [Ann.isUnr] at h⟩
  intro C hmix hT hΦ hΨ hfl β c s k O Q a w hc hr hm hk
  have hfx:C.r=none∨x.flat=true:=hfl.imp id fun h=>by simp only [Ann.flat,Bool.and_eq_true] at h;exact h.1
  have hfy:C.r=none∨y.flat=true:=hfl.imp id fun h=>by simp only [Ann.flat,Bool.and_eq_true] at h;exact h.2
  unfold codeI at hm
  split at hm
  ·rename_i cx cy
   simp only [codeOk,Bool.and_eq_true] at hc
   refine wpIn_seq (ihx C hmix hT hΦ hΨ hfx cx s _ O _ a w hc.1 hr hm fun u hu e s' a' w' hr' hm'=>?_)
   cases e with
   | normal=>exact ihy (C.up u) hmix hT hΦ hΨ hfy cy s' k O Q a' w' hc.2 hr' hm' fun v hv=>by rw [Ctx.up_then];exact hk _ (hu.then hv)
   | exit id=>exact hk u hu (.exit id) s' a' w' hr' hm'
   | ret=>exact hk u hu .ret s' a' w' hr' hm'
  ·exact (ret_fail hm).elim
 | join sh x y ihx ihy=>
  have ihx:=ihx.1
  have ihy:=ihy.1
  refine ⟨?_,fun h=>by simp [Ann.isUnr] at h⟩
  intro C hmix hT hΦ hΨ hfl β c s k O Q a w hc hr hm hk
  have hfx:C.r=none∨x.flat=true:=hfl.imp id fun h=>by simp only [Ann.flat,Bool.and_eq_true] at h;exact h.1
  have hfy:C.r=none∨y.flat=true:=hfl.imp id fun h=>by simp only [Ann.flat,Bool.and_eq_true] at h;exact h.2
  unfold codeI at hm
  split at hm
  ·rename_i cx cy
   simp only [codeOk,Bool.and_eq_true] at hc
   rw [M.ret_bind] at hm
   refine wpIn_seq (ihx C hmix hT hΦ hΨ hfx cx s _ _ _ a w hc.1 hr hm fun u hu e s' a' w' hr' hm'=>?_)
   cases e with
   | normal=>
    obtain ⟨σ,hσ,h2⟩:=rdM_ret hm'
    have h3:=M.ret_pure.1 h2
    exact ihy (C.up u) hmix hT hΦ hΨ hfy cy _ k O Q a' w' hc.2 (Shape.rd_ok hσ hr') h3 fun v hv=>by rw [Ctx.up_then];exact hk _ (hu.then hv)
   | exit id=>
    simp only [doneK,M.ret_bind,M.ret_pure,Step.go] at hm'
    exact hk u hu (.exit id) s' a' w' hr' hm'
   | ret=>
    simp only [doneK,M.ret_bind,M.ret_pure,Step.go] at hm'
    exact hk u hu .ret s' a' w' hr' hm'
  ·exact (ret_fail hm).elim
 | cond x y ihx ihy=>
  have ihx:=ihx.1
  have ihy:=ihy.1
  refine ⟨?_,fun h=>by simp [Ann.isUnr] at h⟩
  intro C hmix hT hΦ hΨ hfl β c s k O Q a w hc hr hm hk
  have hfx:C.r=none∨x.flat=true:=hfl.imp id fun h=>by simp only [Ann.flat,Bool.and_eq_true] at h;exact h.1
  have hfy:C.r=none∨y.flat=true:=hfl.imp id fun h=>by simp only [Ann.flat,Bool.and_eq_true] at h;exact h.2
  unfold codeI at hm
  split at hm
  ·rename_i co cx cy
   simp only [codeOk,Bool.and_eq_true] at hc
   unfold condM at hm
   split at hm
   ·rename_i t hu
    obtain ⟨κ,F,hrk⟩:=hr
    have hv:=opAV_ok hrk co
    rw [hu] at hv
    refine wpIn_cond_split (RV_bool.1 hv) (fun ht=>?_) (fun ht=>?_)
    ·subst ht
     exact ihx C hmix hT hΦ hΨ hfx cx s k O Q a w hc.1 ⟨κ,F,hrk⟩ hm hk
    ·subst ht
     exact ihy C hmix hT hΦ hΨ hfy cy s k O Q a w hc.2 ⟨κ,F,hrk⟩ hm hk
   ·rename_i g t hu
    rw [M.ret_req] at hm
    obtain ⟨hob,hm⟩:=hm
    obtain ⟨κ,F,hrk⟩:=hr
    have hv:=opAV_ok hrk co
    rw [hu] at hv
    refine wpIn_cond_split (RV_bool.1 (hv.1 hob)) (fun ht=>?_) (fun ht=>?_)
    ·subst ht
     exact ihx C hmix hT hΦ hΨ hfx cx s k O Q a w hc.1 ⟨κ,F,hrk⟩ hm hk
    ·subst ht
     exact ihy C hmix hT hΦ hΨ hfy cy s k O Q a w hc.2 ⟨κ,F,hrk⟩ hm hk
   ·exact (ret_fail hm).elim
  ·exact (ret_fail hm).elim
 | block x ihx=>
  have ihx:=ihx.1
  refine ⟨?_,fun h=>by simp [Ann.isUnr] at h⟩
  intro C hmix hT hΦ hΨ hfl β c s k O Q a w hc hr hm hk
  have hfx:C.r=none∨x.flat=true:=hfl
  unfold codeI at hm
  split at hm
  ·rename_i id cx
   refine wpIn_block (ihx C hmix hT hΦ hΨ hfx cx s _ O _ a w hc hr hm fun u hu e s' a' w' hr' hm'=>?_)
   cases e with
   | normal=>exact hk u hu .normal s' a' w' hr' hm'
   | exit id'=>
    simp only [blockK] at hm'
    simp only [Ex.the,Exit.inBlock]
    split at hm'
    ·rename_i e
     rw [if_pos e]
     exact hk u hu .normal s' a' w' hr' hm'
    ·rename_i e
     rw [if_neg e]
     exact hk u hu (.exit id') s' a' w' hr' hm'
   | ret=>exact hk u hu .ret s' a' w' hr' hm'
  ·exact (ret_fail hm).elim
 | loop sh x ihx=>
  have ihx:=ihx.1
  refine ⟨?_,fun h=>by simp [Ann.isUnr] at h⟩
  intro C hmix hT hΦ hΨ hfl β c s k O Q a w hc hr hm hk
  have hfx:C.r=none∨x.flat=true:=hfl
  unfold codeI at hm
  split at hm
  ·rename_i cx
   obtain ⟨σ,hσ,h2⟩:=rdM_ret hm
   refine wpIn_loop_safe (I:=fun σ a w=>∃ u,C.UpOk u∧Rel (C.up u) (sh.st σ) a w) (O:=O) (fun σ a w ⟨v,hv,hI⟩ hsafe hdone=>?_) h2.1 h2.2 ⟨C.same,C.upSame,Shape.rd_ok hσ hr⟩
   refine ihx (C.up v) hmix hT hΦ hΨ hfx cx (sh.st σ) _ (StepOut (codeI C.ft T Φ Ψ x cx (sh.st σ) (doneK k fun s'=>sh.rdM s' fun σ'=>M.pure (Step.next σ'))) O) _ a w hc hI ⟨hsafe,fun st hst=>?_⟩ fun u hu e s' a' w' hr' hm'=>?_
   ·cases st with
    | next σ'=>exact hst
    | done r=>exact hdone r hst
   ·cases e with
    | normal=>
     obtain ⟨σ',hσ',h3⟩:=rdM_ret hm'
     have h4:=M.ret_pure.1 h3
     exact ⟨σ',h4,_,hv.then hu,by rw [←Ctx.up_then];exact Shape.rd_ok hσ' hr'⟩
    | exit id=>
     simp only [doneK,M.ret_bind,M.ret_pure,StepOut] at hm'
     exact hk _ (hv.then hu) (.exit id) s' a' w' (by rw [←Ctx.up_then];exact hr') hm'
    | ret=>
     simp only [doneK,M.ret_bind,M.ret_pure,StepOut] at hm'
     exact hk _ (hv.then hu) .ret s' a' w' (by rw [←Ctx.up_then];exact hr') hm'
  ·exact (ret_fail hm).elim
 | scope x ihx=>
  have ihx:=ihx.1
  refine ⟨?_,fun h=>by simp [Ann.isUnr] at h⟩
  intro C hmix hT hΦ hΨ hfl β c s k O Q a w hc hr hm hk
  have hfx:C.r=none∨x.flat=true:=hfl
  unfold codeI at hm
  split at hm
  ·rename_i cx
   refine wpIn_scope (ihx C hmix hT hΦ hΨ hfx cx s _ O _ a w hc hr hm fun u hu e s' a' w' hr' hm'=>?_)
   have:=hk u hu e s' a' w' hr' hm'
   cases e<;>exact this
  ·exact (ret_fail hm).elim
 | range sh rin rout x y ihx ihy=>
  have ihx:=ihx.1
  have ihy:=ihy.1
  refine ⟨?_,fun h=>by simp [Ann.isUnr] at h⟩
  intro C hmix hT hΦ hΨ hfl β c s k O Q a w hc hr hm hk
  unfold codeI at hm
  split at hm
  ·rename_i g ps assign body
   simp only [codeOk,Bool.and_eq_true,List.all_eq_true,decide_eq_true_eq] at hc
   obtain ⟨hps,hca,hcb⟩:=hc
   split at hm
   ·rename_i kf n fs hg
    split at hm
    ·rename_i ic hic
     split at hm
     ·rename_i x0 fl hx
      split at hm
      ·rename_i hck
       simp only [Bool.and_eq_true] at hck
       obtain ⟨hck,hfx,hfy⟩:=hck
       obtain ⟨σ,hσ,h2⟩:=rdM_ret hm
       rw [M.ret_req,M.ret_bind] at h2
       simp only [exK_eq] at h2
       have hr0:C.r=none:=hfl.resolve_right fun h=>by cases h
       have hck':rangeOk sh rout ic.A ps.toList C.nt=true:=by
        simp only [rangeOk,Bool.and_eq_true,List.all_eq_true,decide_eq_true_eq] at hck ⊢
        exact ⟨hck.1,hps⟩
       refine range_ok hr0 hr hg (hΨ kf _ hic) hx hck' hσ h2.1 h2.2 (fun l=>?_) hk
       intro C1 hP hft hnt hrl s1 a1 w1 O1 hrel hm1
       have h:=ihx C1 (hP ▸ hmix) (hP ▸ hT) (hP ▸ hΦ) (by rw [hP,hft];exact hΨ) (.inr hfx) assign s1 (onlyNormal fun s2=>codeI C.ft T Φ Ψ y body s2 fun e s3=>rout.rdM s3 fun τ=>M.pure (e,τ)) O1
        (Exit.then (fun a2 w2=>∃ u s2,C1.UpOk u∧Rel (C1.up u) s2 a2 w2∧
         ∀ (C2:Ctx),C2.P=C.P→C2.ft=C.ft→C2.nt=C.nt→C2.r=some l→∀ (w2:World),Rel C2 s2 a2 w2→
          body.wpIn (rnd (some l)) 0 C.P (fun e a3 w3=>∃ (e':Ex) (v:UpD) (s3:AState) (τ:rout.Den),e=e'.the∧C2.UpOk v∧Rel (C2.up v) s3 a3 w3∧rout.rd s3=some τ∧O1 (e',τ)) a2 w2) (fun _ _ _=>False)) a1 w1 (hnt ▸ hca) hrel (hft ▸ hm1)
        fun u hu e s2 a2 w2 hr2 hm2=>?_
       ·rw [hP,hrl] at h
        exact h
       ·cases e with
        | normal=>
         refine ⟨u,s2,hu,hr2,fun C2 hP2 hft2 hnt2 hrl2 w2 hr3=>?_⟩
         have h:=ihy C2 (hP2 ▸ hmix) (hP2 ▸ hT) (hP2 ▸ hΦ) (by rw [hP2,hft2];exact hΨ) (.inr hfy) body s2 (fun e s3=>rout.rdM s3 fun τ=>M.pure (e,τ)) O1
          (fun e a3 w3=>∃ (e':Ex) (v:UpD) (s3:AState) (τ:rout.Den),e=e'.the∧C2.UpOk v∧Rel (C2.up v) s3 a3 w3∧rout.rd s3=some τ∧O1 (e',τ)) a2 w2 (hnt2 ▸ hcb) hr3 (hft2 ▸ hm2) fun v hv e s3 a3 w3 hr4 hm3=>by
           obtain ⟨τ,hτ,h5⟩:=rdM_ret hm3
           exact ⟨e,v,s3,τ,rfl,hv,hr4,hτ,M.ret_pure.1 h5⟩
         rw [hP2,hrl2] at h
         exact h
        | exit id=>exact (ret_fail hm2).elim
        | ret=>exact (ret_fail hm2).elim
      ·exact (ret_fail hm).elim
     ·exact (ret_fail hm).elim
    ·exact (ret_fail hm).elim
   ·rename_i A S hg
    split at hm
    ·rename_i hck
     simp only [Bool.and_eq_true] at hck
     obtain ⟨hck,hfx,hfy⟩:=hck
     obtain ⟨σ,hσ,h2⟩:=rdM_ret hm
     rw [M.ret_bind] at h2
     have hr0:C.r=none:=hfl.resolve_right fun h=>by cases h
     have hck':rangeOk sh rout A ps.toList C.nt=true:=by
      simp only [rangeOk,Bool.and_eq_true,List.all_eq_true,decide_eq_true_eq] at hck ⊢
      exact ⟨hck.1,hps⟩
     refine range_it_ok hr0 hr hg hck' hσ h2.1 (fun L hL=>by have h3:=M.ret_bind.1 (h2.2 L hL);simp only [exK_eq] at h3;exact h3) (fun l=>?_) hk
     intro C1 hP hft hnt hrl s1 a1 w1 O1 hrel hm1
     have h:=ihx C1 (hP ▸ hmix) (hP ▸ hT) (hP ▸ hΦ) (by rw [hP,hft];exact hΨ) (.inr hfx) assign s1 (onlyNormal fun s2=>codeI C.ft T Φ Ψ y body s2 fun e s3=>rout.rdM s3 fun τ=>M.pure (e,τ)) O1
      (Exit.then (fun a2 w2=>∃ u s2,C1.UpOk u∧Rel (C1.up u) s2 a2 w2∧
       ∀ (C2:Ctx),C2.P=C.P→C2.ft=C.ft→C2.nt=C.nt→C2.r=some l→∀ (w2:World),Rel C2 s2 a2 w2→
        body.wpIn (rnd (some l)) 0 C.P (fun e a3 w3=>∃ (e':Ex) (v:UpD) (s3:AState) (τ:rout.Den),e=e'.the∧C2.UpOk v∧Rel (C2.up v) s3 a3 w3∧rout.rd s3=some τ∧O1 (e',τ)) a2 w2) (fun _ _ _=>False)) a1 w1 (hnt ▸ hca) hrel (hft ▸ hm1)
      fun u hu e s2 a2 w2 hr2 hm2=>?_
     ·rw [hP,hrl] at h
      exact h
     ·cases e with
      | normal=>
       refine ⟨u,s2,hu,hr2,fun C2 hP2 hft2 hnt2 hrl2 w2 hr3=>?_⟩
       have h:=ihy C2 (hP2 ▸ hmix) (hP2 ▸ hT) (hP2 ▸ hΦ) (by rw [hP2,hft2];exact hΨ) (.inr hfy) body s2 (fun e s3=>rout.rdM s3 fun τ=>M.pure (e,τ)) O1
        (fun e a3 w3=>∃ (e':Ex) (v:UpD) (s3:AState) (τ:rout.Den),e=e'.the∧C2.UpOk v∧Rel (C2.up v) s3 a3 w3∧rout.rd s3=some τ∧O1 (e',τ)) a2 w2 (hnt2 ▸ hcb) hr3 (hft2 ▸ hm2) fun v hv e s3 a3 w3 hr4 hm3=>by
         obtain ⟨τ,hτ,h5⟩:=rdM_ret hm3
         exact ⟨e,v,s3,τ,rfl,hv,hr4,hτ,M.ret_pure.1 h5⟩
       rw [hP2,hrl2] at h
       exact h
      | exit id=>exact (ret_fail hm2).elim
      | ret=>exact (ret_fail hm2).elim
    ·exact (ret_fail hm).elim
   ·exact (ret_fail hm).elim
  ·exact (ret_fail hm).elim
 | unr x y ihx ihy=>
  refine and_second (fun _ C hmix hT hΦ hΨ hfl β c s k O Q a w hc hr hm hk=>?_) fun key C hmix hT hΦ hΨ hfl β c s k O Q a w hc hr hm hk=>?_
  ·have hfx:C.r=none∨x.flat=true:=hfl.imp id fun h=>by simp only [Ann.flat,Bool.and_eq_true] at h;exact h.1
   have hfy:C.r=none∨y.flat=true:=hfl.imp id fun h=>by simp only [Ann.flat,Bool.and_eq_true] at h;exact h.2
   unfold codeI at hm
   simp only at hm
   split at hm
   ·rename_i hu
    refine loopAt_peel (ihx.1 C hmix hT hΦ hΨ hfx c s _ O _ a w hc hr hm fun u hu' e s' a' w' hr' hm'=>?_)
    cases e with
    | normal=>exact ihy.2 hu (C.up u) hmix hT hΦ hΨ hfy c s' k O Q a' w' hc hr' hm' fun v hv=>by rw [Ctx.up_then];exact hk _ (hu'.then hv)
    | exit id=>exact hk u hu' (.exit id) s' a' w' hr' hm'
    | ret=>exact hk u hu' .ret s' a' w' hr' hm'
   ·exact (ret_fail hm).elim
  ·cases c with
   | loop cx=>exact wpIn_loop_at (key rfl C hmix hT hΦ hΨ hfl cx s k O Q a w hc hr hm hk)
   | _=>unfold codeI at hm;exact (ret_fail hm).elim
 | num i n x ih=>
  have ih:=ih.1
  refine ⟨?_,fun h=>by simp [Ann.isUnr] at h⟩
  intro C hmix hT hΦ hΨ hfl β c s k O Q a w hc hr hm hk
  unfold codeI at hm
  split at hm
  ·rename_i v f hv
   rw [M.ret_req] at hm
   have h:=hm.2
   rw [numV_self hv hm.1] at h
   exact ih C hmix hT hΦ hΨ hfl c s k O Q a w hc hr h hk
  ·exact (ret_fail hm).elim
 | split i off n x ih=>
  have ih:=ih.1
  refine ⟨?_,fun h=>by simp [Ann.isUnr] at h⟩
  intro C hmix hT hΦ hΨ hfl β c s k O Q a w hc hr hm hk
  unfold codeI at hm
  split at hm
  ·rename_i v f hv
   rw [M.ret_req] at hm
   have h:=selM_ret hm.2 hm.1.1 hm.1.2
   rw [splitV_self hv hm.1.1] at h
   exact ih C hmix hT hΦ hΨ hfl c s k O Q a w hc hr h hk
  ·exact (ret_fail hm).elim
theorem codeI_ok (ann:Ann):∀ (C:Ctx) (_:C.P.follows .mixedOrders=true) (_:TabOk C.P T) (_:CtrOk C.P Φ) (_:PsiOk C.P C.ft Ψ) (_:C.r=none∨ann.flat=true) {β:Type} (c:Code) (s:AState) (k:Ex→AState→M β) (O:β→Prop) (Q:Exit→Act→World→Prop) (a:Act) (w:World),
  codeOk C.nt c=true→Rel C s a w→M.Ret (codeI C.ft T Φ Ψ ann c s k) O→(∀ u,C.UpOk u→∀ e s' a' w',Rel (C.up u) s' a' w'→M.Ret (k e s') O→Q e.the a' w')→c.wpIn (rnd C.r) 0 C.P Q a w:=(codeI_both ann).1
end
end Go.Fer
namespace Go.Fer
open Go.RowKit
def resAVs (T:Nat→Ty) (s:AState):List ResultVar→Option (List AV)
 | []=>some []
 | r::l=>match resAVs T s l with
  | none=>none
  | some vs=>match r with
   | .tmp t=>some (s.slot t::vs)
   | .cell a ty=>match (loadV (T ty) (s.slot a)).run s.blk with
    | some v=>some (v::vs)
    | none=>none
def cntOk (t:Ty) (n:Nat):Bool:=
 match t with
 | .prod _ _=>n != 1
 | .unit=>n == 0
 | _=>n == 1
def retI (T:Nat→Ty) (rs:List ResultVar) (tr:Ty) (e:Ex) (s:AState):M tr.Den:=
 match e with
 | .exit _=>M.fail
 | _=>match resAVs T s rs with
  | some avs=>match (asArgs tr avs).run s.blk with
   | some (y,_)=>M.pure y
   | none=>M.fail
  | none=>M.fail
def parL (t:Ty) (x:t.Den) (n:Nat):List (Nat×AV):=(List.range n).map fun i=>(i,resAV t x i)
def parN (t:Ty):Nat:=if t=.unit then 0 else resN t
def parSt (t:Ty) (x:t.Den):AState:=mkSt (parL t x (parN t)) []
def funI (U:FnTab) (T:Nat→Ty) (Φ:Nat→Option FC) (Ψ:Nat→Option KC) (fn:Func) (c:Code) (ann:Ann) (ts tr:Ty) (x:ts.Den):M tr.Den:=
 codeI U T Φ Ψ ann c (parSt ts x) (retI T fn.results.toList tr)
def ptrOf (av:AV):AV:=match av with | .val (.ptr e) p=>.pp e (p.getD e.dflt) | v=>v
def ptrPre (av:AV):Prop:=match av with | .val (.ptr _) p=>p.isSome=true | _=>True
def capsSt (n:Nat) (s:AState):AState:=⟨fun i=>if i<n∨TMAX<i then s.slot i else ptrOf (s.slot i),s.blk⟩
def capsPre (n:Nat) (s:AState):Prop:=∀ i,¬(i<n∨TMAX<i)→ptrPre (s.slot i)
def funC (U:FnTab) (T:Nat→Ty) (Φ:Nat→Option FC) (Ψ:Nat→Option KC) (fn:Func) (c:Code) (ann:Ann) (n:Nat) (ts tr:Ty) (x:ts.Den):M tr.Den:=
 M.req (capsPre n (parSt ts x)) (codeI U T Φ Ψ ann c (capsSt n (parSt ts x)) (retI T fn.results.toList tr))
def fnOk (fn:Func) (c:Code) (ts tr:Ty):Bool:=
 codeOk fn.ntmps c && cntOk tr fn.results.size && decide (parN ts ≤ fn.ntmps) && !(fn.name == "runtime.NumGoroutine") && decide (fn.ntmps ≤ TMAX)
def expG:List (Option Nat)→List AV→Option (List AV)
 | [],[]=>some []
 | none::g,v::vs=>match expG g vs with
  | some l=>some (v::l)
  | none=>none
 | some n::g,v::vs=>match v,expG g vs with
  | .agg m f,some l=>if m=n then some ((List.range n).map f++l) else none
  | _,_=>none
 | _,_=>none
def retIO (T:Nat→Ty) (rs:List ResultVar) (grp:List (Option Nat)) (out:Shape) (e:Ex) (s:AState):M out.Den:=
 match e with
 | .exit _=>M.fail
 | _=>match resAVs T s rs with
  | some avs=>match expG grp avs with
   | some l=>match decide (l.length≤TMAX) with
    | true=>out.rdM (argSt s l) fun τ=>M.pure τ
    | false=>M.fail
   | none=>M.fail
  | none=>M.fail
def funIO (U:FnTab) (T:Nat→Ty) (Φ:Nat→Option FC) (Ψ:Nat→Option KC) (fn:Func) (c:Code) (ann:Ann) (sin out:Shape) (grp:List (Option Nat)) (σ:sin.Den):M out.Den:=
 codeI U T Φ Ψ ann c (sin.st σ) (retIO T fn.results.toList grp out)
def fnOkIO (fn:Func) (c:Code) (nargs:Nat) (grp:List (Option Nat)):Bool:=
 codeOk fn.ntmps c && decide (fn.results.size = grp.length) && decide (nargs ≤ fn.ntmps) && !(fn.name == "runtime.NumGoroutine") && decide (fn.ntmps ≤ TMAX)
section
variable {C:Ctx} {T:Nat→Ty} {Φ:Nat→Option FC} {Ψ:Nat→Option KC}
def rdRes (tmps:Array Value) (r:ResultVar):Sem Value:=
 match r with
 | .tmp t=>pure (tmps.getD t undef)
 | .cell b t=>do loadVar t (←asAddr (tmps.getD b undef))
theorem results_eq (fn:Func) (tmps:Array Value):results fn tmps=(fn.results.mapM (rdRes tmps) >>= fun vs=>pure (if h:vs.size=1 then vs[0] else .tuple vs)):=by
 unfold results
 congr 2
theorem resAVs_ok (hT:TabOk C.P T) {s:AState} {a:Act} {w:World} {κ:Nat→KB} {F:Nat→Prop} (hr:RelK C s a w κ F):∀ (rs:List ResultVar) {avs:List AV},resAVs T s rs=some avs→
  ∃ vs:List Value,(rs.mapM (rdRes a.tmps)).run C.P w=.ok vs w∧vs.length=rs.length∧avs.length=rs.length∧
   ∀ i (h:i<avs.length) (h':i<vs.length),RA C.P s.blk κ F w avs[i] vs[i]:=by
 intro rs
 induction rs with
 | nil=>intro avs h;cases h;exact ⟨[],rfl,rfl,rfl,fun i hi=>by cases hi⟩
 | cons r rs ih=>
  intro avs h
  simp only [resAVs] at h
  split at h
  ·cases h
  ·rename_i l hl
   obtain ⟨vs,h1,h2,h3,h4⟩:=ih hl
   have one:∃ av v,avs=av::l∧(rdRes a.tmps r).run C.P w=.ok v w∧RA C.P s.blk κ F w av v:=by
    split at h
    ·rename_i t
     cases h
     exact ⟨_,_,rfl,rfl,hr.slots t⟩
    ·rename_i b ty
     split at h
     ·rename_i v hv
      cases h
      obtain ⟨u,k1,k2⟩:=loadV_ok hT hr hv (hr.slots b)
      refine ⟨v,u,rfl,?_,k2⟩
      unfold Instr.loadAt at k1
      unfold rdRes
      simp only
      generalize a.tmps.getD b Go.undef=z at k1 ⊢
      cases z with
      | pointer p=>
       cases p with
       | none=>simp [Instr.sureAddr] at k1
       | some p=>simpa [Instr.sureAddr,asAddr] using k1
      | _=>simp [Instr.sureAddr] at k1
     ·cases h
   obtain ⟨av,v,rfl,k1,k2⟩:=one
   refine ⟨v::vs,?_,by simp [h2],by simp [h3],fun i hi hi'=>?_⟩
   ·simp only [List.mapM_cons,Sem.run_bind,k1,Result.andThen_ok,h1,Sem.run_pure]
   ·cases i with
    | zero=>exact k2
    | succ i=>simpa using h4 i (by simpa using hi) (by simpa using hi')
theorem retI_ok (hT:TabOk C.P T) {fn:Func} {tr:Ty} (hcnt:cntOk tr fn.results.size=true) {e:Ex} {s:AState} {a:Act} {w:World} {O:tr.Den→Prop} (hr:Rel C s a w) (hm:M.Ret (retI T fn.results.toList tr e s) O) :
  (∀ id,e≠.exit id)∧∃ κ F v y,RelK C s a w κ F∧(results fn a.tmps).run C.P w=.ok v w∧O y∧∃ F',(∀ r,F' r→C.F0 r∨¬C.K0 r)∧(∀ r,F' r→r<w.heap.size)∧RRes C.P tr F' w v y:=by
 obtain ⟨κ,F,hr⟩:=hr
 unfold retI at hm
 split at hm
 ·exact (ret_fail hm).elim
 ·rename_i hne
  refine ⟨fun id he=>hne id he,?_⟩
  split at hm
  ·rename_i avs havs
   split at hm
   ·rename_i y l hy
    obtain ⟨vs,h1,h2,h3,h4⟩:=resAVs_ok hT hr _ havs
    obtain ⟨F',f1,hr',f2⟩:=RelK.frzL (asArgs_closed _ hy) hr
    have hargs:=asArgs_ok (F':=F') hr.blks f1 tr hy f2 (by omega) h4
    have hrun:(results fn a.tmps).run C.P w=.ok (if h:vs.toArray.size=1 then vs.toArray[0] else .tuple vs.toArray) w:=by
     rw [results_eq,Sem.run_bind]
     have:(fn.results.mapM (rdRes a.tmps)).run C.P w=.ok vs.toArray w:=by
      rw [Array.mapM_eq_mapM_toList,map_eq_pure_bind,Sem.run_bind,h1]
      rfl
     rw [this]
     rfl
    refine ⟨κ,F,_,y,hr,hrun,M.ret_pure.1 hm,F',hr'.flo,hr'.fsz,vs,?_,hargs⟩
    have hsz:vs.length=fn.results.size:=by simp [h2]
    rw [←hsz] at hcnt
    clear hrun hargs h1 h4 h2 hsz hy
    have one:vs.length=1→vs=[if h:vs.toArray.size=1 then vs.toArray[0] else .tuple vs.toArray]:=by
     intro h
     match vs,h with
     | [v],_=>rfl
    cases tr<;>simp only [cntOk,beq_iff_eq,bne_iff_ne,ne_eq] at hcnt<;>simp only [ResVal]
    case prod=>rw [dif_neg (by simpa using hcnt)]
    case unit=>
     have:vs=[]:=List.length_eq_zero_iff.1 hcnt
     subst this
     exact ⟨rfl,rfl⟩
    all_goals exact one hcnt
   ·exact (ret_fail hm).elim
  ·exact (ret_fail hm).elim
theorem look_of {l:List (Nat×AV)} {i:Nat}:look l i=.undef∨(i,look l i)∈l:=by
 induction l with
 | nil=>exact .inl rfl
 | cons p l ih=>
  simp only [look]
  split
  ·rename_i e
   subst e
   exact .inr (List.mem_cons_self)
  ·exact ih.imp id (List.mem_cons_of_mem _)
theorem callFunc_enter {P : Program} {k : FuncId} {fn : Func} {c : Code} (hf : P.funcs[k]? = some fn) (hb : fn.body = some c) (hn : (fn.name == "runtime.NumGoroutine") = false) (args : Array Value) (w : World) :
  (callFunc k args).run P w=.ok (.enter k args) w:=by
 have hn : ¬ fn.name = "runtime.NumGoroutine" := by simpa using hn
 simp [callFunc,hf,hb,hn]
def unmark (w:World):List Nat→World
 | []=>w
 | B::ms=>unmark (w.putObj B (.deferred none)) ms
theorem unmark_size:∀ (ms:List Nat) (w:World),(unmark w ms).heap.size=w.heap.size
 | [],_=>rfl
 | _::ms,_=>(unmark_size ms _).trans World.putObj_size
theorem unmark_other:∀ (ms:List Nat) (w:World) {r:Nat},r ∉ ms→(unmark w ms).heap[r]?=w.heap[r]?
 | [],_,_,_=>rfl
 | B::ms,w,r,h=>by
  simp only [List.mem_cons,not_or] at h
  exact (unmark_other ms _ h.2).trans (World.putObj_heap_other h.1)
theorem unmark_calm:∀ (ms:List Nat) (w:World),Calm w (unmark w ms)
 | [],w=>Calm.refl w
 | B::ms,w=>by
  have h:Calm w (w.putObj B (.deferred none)):=⟨rfl,rfl,rfl⟩
  exact h.trans (unmark_calm ms _)
theorem unmark_leaves {P:Program} {fn:Func} {tmps:Array Value} {R:Ending→World→Prop}:∀ (ms:List Nat) (w:World),ms.Nodup→(∀ B∈ms,w.heap[B]?=some (.deferred (some [])))→
  (∃ v,(results fn tmps).run P (unmark w ms)=.ok v (unmark w ms)∧R (.returned v) (unmark w ms))→LeavesInM Fence.wide 0 P fn tmps R (ms.map markD) .returning w
 | [],w,_,_,h=>h
 | B::ms,w,hn,hB,h=>by
  simp only [List.nodup_cons] at hn
  refine ⟨by simp,.inl ⟨B,_,rfl,run_takeDeferred (hB B (by simp)),?_⟩⟩
  exact unmark_leaves ms _ hn.2 (fun B' h'=>(World.putObj_heap_other fun e=>hn.1 (by subst e;exact h')).trans (hB B' (List.mem_cons_of_mem _ h'))) h
theorem Rel.wind {u:UpD} {s:AState} {a:Act} {w:World} (hu:C.UpOk u) (hF0:∀ r,C.F0 r→r<C.w0.heap.size) (hK0:∀ r,C.K0 r→r<C.w0.heap.size) (h:Rel (C.up u) s a w) :
  Rel { C with dfr:=u.ms.map markD++C.dfr } s a (unmark w u.ms)∧a.defers=u.ms.map markD++C.dfr∧∀ B∈u.ms,w.heap[B]?=some (.deferred (some [])):=by
 obtain ⟨κ,F,h⟩:=h
 have hnF:∀ B∈u.ms,¬F B:=fun B hB hf=>by
  obtain ⟨h1,_⟩:=hu.mks B hB
  rcases h.flo B hf with h2 | h2
  ·have:=hF0 B h2
   have:=(hu.new B hB).2
   omega
  ·exact h2 h1
 have hsz:=unmark_size u.ms w
 have hc:=unmark_calm u.ms w
 refine ⟨⟨κ,F,h.rebase2 (w0:=C.w0) (w':=unmark w u.ms) (K0:=C.K0) (r:=C.r) (fun r hr=>hu.k0 r hr) (fun r hr=>unmark_other _ _ fun hm=>?_) (Nat.le_of_eq hsz.symm) hc hK0 (fun r hr=>?_) ?_ ?_⟩,h.dfr,fun B hB=>?_⟩
 ·rcases hr with hr | hr
  ·exact hnF r hm hr
  ·exact hr (hu.mks r hm).1
 ·exact (unmark_other _ _ fun hm=>(hu.new r hm).1 hr).trans ((h.keep r (hu.k0 r hr)).trans (hu.keep r hr))
 ·rw [hsz];exact Nat.le_trans hu.size h.size
 ·exact (hu.calm.trans h.calm).trans hc
 ·exact (h.keep B (hu.mks B hB).1).trans (hu.mks B hB).2
theorem fn_okS {P:Program} {U:FnTab} (hmix:P.follows .mixedOrders=true) {k:FuncId} {fn:Func} {c:Code} {ann:Ann} {ts tr:Ty} {sh:ts.Den→M tr.Den} (hT:TabOk P T) (hU:FnTabOk P U) (hΦ:CtrOk P Φ) (hΨ:PsiOk P U Ψ) (hf:P.funcs[k]?=some fn) (hb:fn.body=some c)
    (hok:fnOk fn c ts tr=true) {s0:ts.Den→AState} {pre:ts.Den→Prop} (hs0:∀ x C a w,Rel C (parSt ts x) a w→pre x→Rel C (s0 x) a w)
    (hsh:∀ x,M.le (M.req (pre x) (codeI U T Φ Ψ ann c (s0 x) (retI T fn.results.toList tr))) (sh x)):FnSpec P k ts tr sh:=by
  simp only [fnOk,Bool.and_eq_true,Bool.not_eq_true',decide_eq_true_eq] at hok
  obtain ⟨⟨⟨⟨hcode,hcnt⟩,hpar⟩,hname⟩,htm⟩:=hok
  refine ⟨callFunc_enter hf hb hname,fun F w args x hF hG hargs hsafe=>?_⟩
  obtain ⟨⟨hpre,h1⟩,h2⟩:=hsh x hsafe
  have hlen:args.length=parN ts∧∀ i,i<parN ts→∀ (H:Nat→ABlk) (κ:Nat→KB),RA P H κ F w (resAV ts x i) (args.getD i Go.undef):=by
    unfold parN
    split
    · rename_i e
      subst e
      have:args=[]:=hargs.1
      subst this
      exact ⟨rfl,fun i hi=>by cases hi⟩
    · rename_i e
      exact ⟨(args_ok (H:=fun _=>⟨0,.dead⟩) (κ:=fun _=>⟨0,0,0,false⟩) ts hargs e).1,fun i hi H κ=>(args_ok ts hargs e).2 i hi⟩
  let C:Ctx:={ P:=P,w0:=w,F0:=F,K0:=fun r=>r<w.heap.size,nt:=fn.ntmps,r:=none,dfr:=[],an:=fun _=>none,pr:=⟨0,.unit,fun _=>False,fun _ _ _ _ _=>False⟩,ft:=U }
  let a0:Act:={ tmps:=args.toArray++Array.replicate (fn.ntmps - args.toArray.size) undef,defers:=[] }
  let κ0:Nat→KB:=fun _=>⟨0,0,0,false⟩
  have hslot:∀ i,(parSt ts x).slot i=.undef∨(i<parN ts∧(parSt ts x).slot i=resAV ts x i):=fun i=>by
    rcases look_of (l:=parL ts x (parN ts)) (i:=i) with e | e
    · exact .inl e
    · refine .inr ?_
      generalize hz:look (parL ts x (parN ts)) i=z at e
      simp only [parL,List.mem_map,List.mem_range,Prod.mk.injEq] at e
      obtain ⟨j,hj,rfl,rfl⟩:=e
      exact ⟨hj,hz⟩
  have hr:Rel C (parSt ts x) a0 w:=by
    refine ⟨κ0, F, { tsz := ?_, dfr := rfl, slots := fun i => ?_, blks := fun b => trivial, own := fun b hb => (by cases hb), inj := fun b b' hb _ _ => (by cases hb), fsz := hF, flo := fun r hr => .inl hr, fhi := fun r hr => hr, ksz := fun r hr => hr, keep := fun r _ => rfl, size := Nat.le_refl _, calm := Calm.refl w,
                     nsz:=htm,aran:=fun b r h=>(by cases h),anch:=fun b r h=>(by cases h),ara:=fun b k h=>(by cases h),anA:=fun b k h=>(by cases h),pro:=fun l A L n st e=>?_,pool:=fun e m hm=>(by cases hm),ftok:=hU,glob:=hG }⟩
    · have:=hlen.1
      simp [a0,C]
      omega
    · rcases hslot i with e | ⟨hi,e⟩
      · rw [e];simp only [RA]
      · rw [e]
        have:a0.tmps.getD i Go.undef=args.getD i Go.undef:=by
          have hi':i<args.length:=by rw [hlen.1];exact hi
          simp [a0,Array.getD_eq_getD_getElem?,List.getD_eq_getElem?_getD,Array.getElem?_append,hi']
        rw [this]
        exact hlen.2 i hi _ _
    · rcases hslot TRS with h | ⟨h,_⟩
      · rw [h] at e;cases e
      · unfold TRS TMAX at *;omega
  refine callsIn_wide.1 (callsIn_of_wp_marks (F:=Fence.wide) (n:=0) hf hb trivial ?_)
  have hw:=codeI_ok ann C hmix hT hΦ hΨ (.inl rfl) (k:=retI T fn.results.toList tr) (O:=(codeI U T Φ Ψ ann c (s0 x) (retI T fn.results.toList tr)).out) (Q:=bodyPostM Fence.wide 0 P fn fun e w'=>∃ v y,e=.returned v∧(sh x).out y∧RRes P tr (Grow F w w') w' v y∧Below w.heap.size w w') c (s0 x) a0 w hcode (hs0 x C a0 w hr hpre) ⟨h1,fun _ h=>h⟩
  refine hw fun u hu e s' a' w' hr' hm=>?_
  obtain ⟨hr2,hd,hB⟩:=Rel.wind hu hF (fun _ h=>h) hr'
  obtain ⟨hne,κ,F1,v,y,hrk,hrun,hy,F',f1,f2,hres⟩:=retI_ok (C:={ C with dfr:=u.ms.map markD++C.dfr }) hT hcnt hr2 hm
  have hpost:LeavesInM Fence.wide 0 P fn a'.tmps (fun e w'=>∃ v y,e=.returned v∧(sh x).out y∧RRes P tr (Grow F w w') w' v y∧Below w.heap.size w w') a'.defers .returning w':=by
    rw [hd]
    simp only [C,List.append_nil]
    refine unmark_leaves u.ms w' hu.nd hB ⟨v,hrun,v,y,rfl,h2 y hy,?_,hrk.calm.os,hrk.calm.tape,hrk.calm.output,hrk.size,hrk.keep⟩
    obtain ⟨vs,k1,k2,k3⟩:=hres
    refine ⟨vs,k1,k2,RC_mono tr (fun r hr=>?_) (Ext.refl _ _) k3⟩
    rcases f1 r hr with h | h
    · exact .inl h
    · exact .inr ⟨Nat.le_of_not_lt h,f2 r hr⟩
  cases e with
  | normal=>exact hpost
  | exit id=>exact absurd rfl (hne id)
  | ret=>exact hpost
theorem fn_ok {P:Program} {U:FnTab} (hmix:P.follows .mixedOrders=true) {k:FuncId} {fn:Func} {c:Code} {ann:Ann} {ts tr:Ty} {sh:ts.Den→M tr.Den} (hT:TabOk P T) (hU:FnTabOk P U) (hΦ:CtrOk P Φ) (hΨ:PsiOk P U Ψ) (hf:P.funcs[k]?=some fn) (hb:fn.body=some c)
  (hok:fnOk fn c ts tr=true) (hsh:∀ x,M.le (funI U T Φ Ψ fn c ann ts tr x) (sh x)):FnSpec P k ts tr sh:=
 fn_okS hmix hT hU hΦ hΨ hf hb hok (ann:=ann) (s0:=parSt ts) (pre:=fun _=>True) (fun _ _ _ _ h _=>h) fun x hs=>⟨⟨trivial,(hsh x hs).1⟩,(hsh x hs).2⟩
theorem caps_ok {C:Ctx} {s:AState} {a:Act} {w:World} {n:Nat} (h:Rel C s a w) (hc:capsPre n s):Rel C (capsSt n s) a w:=by
 obtain ⟨κ,F,hr⟩:=h
 refine ⟨κ,F,{ hr with slots:=fun i=>?_,tsz:=hr.tsz,dfr:=hr.dfr,blks:=hr.blks,pro:=fun l A L m st e=>?_,pool:=hr.pool.slots rfl fun l A L m st e=>?_ }⟩
 ·show RA C.P s.blk κ F w (if i<n∨TMAX<i then s.slot i else ptrOf (s.slot i)) _
  split
  ·exact hr.slots i
  ·rename_i hi
   have hv:=hr.slots i
   have hp:=hc i hi
   unfold ptrOf
   unfold ptrPre at hp
   split
   ·rename_i e p he
    rw [he] at hv hp
    have hp:p.isSome=true:=hp
    obtain ⟨_,hv⟩:=(RV_leaf rfl).1 hv
    simp only [RC] at hv
    rcases hv with ⟨_,rfl⟩ | ⟨q,y,ds,hq,rfl,k1,k2⟩
    ·cases hp
    ·exact ⟨q,ds,(List.cons.inj hq).1,k1,k2⟩
   ·exact hv
 ·have e:(if TRS<n∨TMAX<TRS then s.slot TRS else ptrOf (s.slot TRS))=.tr l A L m st:=e
  rw [if_pos (.inr (by decide))] at e
  exact hr.pro l A L m st e
 ·have e:(if TRS<n∨TMAX<TRS then s.slot TRS else ptrOf (s.slot TRS))=.tr l A L m st:=e
  rw [if_pos (.inr (by decide))] at e
  exact e
theorem fnC_ok {P:Program} {U:FnTab} (hmix:P.follows .mixedOrders=true) {k:FuncId} {fn:Func} {c:Code} {ann:Ann} {n:Nat} {ts tr:Ty} {sh:ts.Den→M tr.Den} (hT:TabOk P T) (hU:FnTabOk P U) (hΦ:CtrOk P Φ) (hΨ:PsiOk P U Ψ) (hf:P.funcs[k]?=some fn) (hb:fn.body=some c)
  (hok:fnOk fn c ts tr=true) (hsh:∀ x,M.le (funC U T Φ Ψ fn c ann n ts tr x) (sh x)):FnSpec P k ts tr sh:=
 fn_okS hmix hT hU hΦ hΨ hf hb hok (ann:=ann) (s0:=fun x=>capsSt n (parSt ts x)) (pre:=fun x=>capsPre n (parSt ts x)) (fun _ _ _ _ h hp=>caps_ok h hp) hsh
theorem expG_ok {H:Nat→ABlk} {κ:Nat→KB} {F:Nat→Prop} {w:World} {P:Program}:∀ (g:List (Option Nat)) {avs l:List AV} {us:List Value},expG g avs=some l→avs.length=us.length→(∀ i (h:i<avs.length) (h':i<us.length),RA P H κ F w avs[i] us[i])→
  ∃ vs:List Value,GV g us vs∧l.length=vs.length∧∀ i,i<vs.length→RA P H κ F w (l.getD i .undef) (vs.getD i undef)
 | [],[],l,us,h,hl,_=>by
  cases h
  have:us=[]:=List.eq_nil_of_length_eq_zero hl.symm
  subst this
  exact ⟨[],rfl,rfl,fun i hi=>by cases hi⟩
 | [],_::_,_,_,h,_,_=>by cases h
 | none::_,[],_,_,h,_,_=>by cases h
 | some _::_,[],_,_,h,_,_=>by cases h
 | none::g,av::avs,l,[],_,hl,_=>by cases hl
 | some n::g,av::avs,l,[],_,hl,_=>by cases hl
 | none::g,av::avs,l,u::us,h,hl,hv=>by
  simp only [expG] at h
  split at h
  ·rename_i l' hl'
   cases h
   obtain ⟨vs,h1,h2,h3⟩:=expG_ok g hl' (by simpa using hl) fun i h h'=>hv (i+1) (Nat.succ_lt_succ h) (Nat.succ_lt_succ h')
   refine ⟨u::vs,⟨vs,rfl,h1⟩,by simp [h2],fun i hi=>?_⟩
   cases i with
   | zero=>exact hv 0 (Nat.zero_lt_succ _) (Nat.zero_lt_succ _)
   | succ i=>simpa using h3 i (by simpa using hi)
  ·cases h
 | some n::g,av::avs,l,u::us,h,hl,hv=>by
  simp only [expG] at h
  split at h
  ·rename_i m f l' hl'
   split at h
   ·rename_i hmn
    cases h
    subst hmn
    obtain ⟨vs,h1,h2,h3⟩:=expG_ok g hl' (by simpa using hl) fun i h h'=>hv (i+1) (Nat.succ_lt_succ h) (Nat.succ_lt_succ h')
    obtain ⟨cs,k1,k2,k3⟩:RA P H κ F w (.agg m f) u:=hv 0 (Nat.zero_lt_succ _) (Nat.zero_lt_succ _)
    refine ⟨cs++vs,⟨cs.toArray,vs,k1,by simpa using k2,fun c hc=>?_,by simp,h1⟩,by simp [h2,k2],fun i hi=>?_⟩
    ·obtain ⟨j,hj,rfl⟩:=List.mem_iff_getElem.1 (by simpa using hc:c∈cs)
     have:=(k3 j (by omega)).2
     rwa [List.getD_eq_getElem?_getD,List.getElem?_eq_getElem hj] at this
    ·by_cases hlt:i<m
     ·have:=(k3 i hlt).1
      simp only [List.getD_eq_getElem?_getD] at this ⊢
      rw [List.getElem?_append_left (by simpa using hlt),List.getElem?_append_left (by omega)]
      simpa [hlt] using this
     ·have hlt:m≤i:=Nat.le_of_not_lt hlt
      have:=h3 (i - m) (by simp at hi;omega)
      simp only [List.getD_eq_getElem?_getD] at this ⊢
      rw [List.getElem?_append_right (by simpa using hlt),List.getElem?_append_right (by omega)]
      simpa [k2] using this
   ·cases h
  ·cases h
theorem fnIO_ok {P:Program} {U:FnTab} (hmix:P.follows .mixedOrders=true) {k:FuncId} {fn:Func} {c:Code} {ann:Ann} {ic:IOC} (hT:TabOk P T) (hΦ:CtrOk P Φ) (hΨ:PsiOk P U Ψ) (hf:P.funcs[k]?=some fn) (hb:fn.body=some c)
  (hok:fnOkIO fn c ic.nargs ic.grp=true) (hsh:∀ σ,M.le (funIO U T Φ Ψ fn c ann ic.sin ic.out ic.grp σ) (ic.sh σ)):IoSpec P U k ic:=by
 simp only [fnOkIO,Bool.and_eq_true,Bool.not_eq_true',decide_eq_true_eq] at hok
 obtain ⟨⟨⟨⟨hcode,hcnt⟩,hpar⟩,hname⟩,htm⟩:=hok
 refine ⟨callFunc_enter hf hb hname,fun C a w κ F σ hP hw0 hr0 hd0 hn0 hU hr hsafe=>?_⟩
 subst hP
 subst hw0
 subst hU
 obtain ⟨h1,h2⟩:=hsh σ hsafe
 have hasz:a.tmps.size=ic.nargs:=hr.tsz.trans hn0
 have hget:∀ i,(a.tmps++Array.replicate (fn.ntmps - a.tmps.size) undef).getD i undef=a.tmps.getD i undef:=fun i=>by
  simp only [Array.getD_eq_getD_getElem?,Array.getElem?_append]
  split
  ·rfl
  ·rename_i h
   rw [Array.getElem?_eq_none (Nat.le_of_not_lt h),Array.getElem?_replicate]
   split<;>rfl
 have hr':RelK { C with nt:=fn.ntmps,dfr:=[],r:=none } (ic.sin.st σ) { tmps:=a.tmps++Array.replicate (fn.ntmps - a.tmps.size) undef,defers:=[] } C.w0 κ F:=
  { hr with tsz:=(by simp;omega),dfr:=rfl,nsz:=htm,slots:=fun i=>(by rw [hget];exact hr.slots i),blks:=hr.blks }
 refine callsIn_wide.1 (callsIn_of_wp_marks (F:=Fence.wide) (n:=0) hf hb trivial ?_)
 have hw:=codeI_ok ann { C with nt:=fn.ntmps,dfr:=[],r:=none } hmix hT hΦ hΨ (.inl rfl) (k:=retIO T fn.results.toList ic.grp ic.out) (O:=(funIO C.ft T Φ Ψ fn c ann ic.sin ic.out ic.grp σ).out)
  (Q:=bodyPostM Fence.wide 0 C.P fn fun e w'=>∃ v τ vs κ' F',e=.returned v∧(ic.sh σ).out τ∧GrpVal ic.grp v vs∧RelK { C with nt:=vs.length } (ic.out.st τ) { tmps:=vs.toArray,defers:=[] } w' κ' F') c (ic.sin.st σ) _ C.w0 hcode ⟨κ,F,hr'⟩ ⟨h1,fun _ h=>h⟩
 refine hw fun u hu e s' a' w' hr' hm=>?_
 obtain ⟨⟨κ2,F2,hr2⟩,hd,hB⟩:=Rel.wind hu (fun r h=>hr.fsz r (hr.fhi r h)) hr.ksz hr'
 have key:(∀ id,e≠.exit id)∧LeavesInM Fence.wide 0 C.P fn a'.tmps (fun e w'=>∃ v τ vs κ' F',e=.returned v∧(ic.sh σ).out τ∧GrpVal ic.grp v vs∧RelK { C with nt:=vs.length } (ic.out.st τ) { tmps:=vs.toArray,defers:=[] } w' κ' F') a'.defers .returning w':=by
  unfold retIO at hm
  split at hm
  ·exact (ret_fail hm).elim
  ·rename_i hne
   refine ⟨fun id he=>hne id he,?_⟩
   split at hm
   ·rename_i avs havs
    split at hm
    ·rename_i l hl
     split at hm
     ·rename_i hlt
      have hlt:l.length≤TMAX:=of_decide_eq_true hlt
      obtain ⟨us,k1,k2,k3,k4⟩:=resAVs_ok (C:={ C with nt:=fn.ntmps,dfr:=u.ms.map markD++[],r:=none }) hT hr2 _ havs
      obtain ⟨vs,g1,g2,g3⟩:=expG_ok ic.grp hl (by omega) k4
      obtain ⟨τ,hτ,h5⟩:=rdM_ret hm
      have ha:=hr2.args (avs:=l) (us:=vs) (by omega) g2 g3
      obtain ⟨κ3,F3,_,hr3⟩:=Shape.rd_okK hτ ha
      rw [hd]
      simp only [List.append_nil]
      have hrun:(results fn a'.tmps).run C.P (unmark w' u.ms)=.ok (if us.length=1 then us.getD 0 undef else .tuple us.toArray) (unmark w' u.ms):=by
       rw [results_eq,Sem.run_bind]
       have:(fn.results.mapM (rdRes a'.tmps)).run C.P (unmark w' u.ms)=.ok us.toArray (unmark w' u.ms):=by
        rw [Array.mapM_eq_mapM_toList,map_eq_pure_bind,Sem.run_bind,k1]
        rfl
       rw [this]
       simp only [Result.andThen_ok,Sem.run_pure,List.size_toArray]
       by_cases hone:us.length=1
       ·rw [dif_pos hone,if_pos hone]
        simp [List.getD_eq_getElem?_getD,hone]
       ·rw [dif_neg hone,if_neg hone]
      refine unmark_leaves u.ms w' hu.nd hB ⟨_,hrun,_,τ,vs,κ3,F3,rfl,h2 τ (M.ret_pure.1 h5),⟨us,?_,rfl,g1⟩,?_⟩
      ·rw [k2];simpa using hcnt
      ·have e:({ C with nt:=vs.length }:Ctx)={ C with nt:=vs.length,dfr:=[],r:=none }:=by
        cases C
        simp only at hr0 hd0
        subst hr0
        subst hd0
        rfl
       rw [e]
       exact hr3
     ·exact (ret_fail hm).elim
    ·exact (ret_fail hm).elim
   ·exact (ret_fail hm).elim
 cases e with
 | normal=>exact key.2
 | exit id=>exact absurd rfl (key.1 id)
 | ret=>exact key.2
end
def tabT:List (Nat×Ty)→Nat→Ty
 | [],_=>.unit
 | p::l,i=>if i=p.1 then p.2 else tabT l i
def tabChk (P:Program) (l:List (Nat×Ty)):Bool:=l.all fun p=>tyChk P p.2 (.inl p.1)
theorem tabT_ok {P:Program} {l:List (Nat×Ty)} (h:tabChk P l=true):TabOk P (tabT l):=by
 intro id
 induction l with
 | nil=>exact .inl rfl
 | cons p l ih=>
  simp only [tabChk,List.all_cons,Bool.and_eq_true] at h
  simp only [tabT]
  split
  ·rename_i e
   subst e
   exact .inr h.1
  ·exact ih h.2
end Go.Fer
namespace Go.Fer
open Go.RowKit
theorem cit_of_io {P:Program} {U:FnTab} {k:FuncId} {c:IOC} (h:IoSpec P U k c) (hU:FnTabOk P U) {cs:List Ty} {A:Ty} {S:(tupT (cs.map .ptr)).Den→List A.Den→Prop} (mk:(tupT (cs.map .ptr)).Den→Nat→(List A.Den→Prop)→c.sin.Den)
    (hn:c.nargs=resN (tupT (cs.map .ptr))+1) (hn2:c.nargs≤TMAX) (hts:tupT (cs.map .ptr)≠.unit)
    (hsl:∀ x l L i,(∃ T,S x T)→(c.sin.st (mk x l L)).slot i=.undef∨(i<resN (tupT (cs.map .ptr))+1∧0<i∧∃ e y,(c.sin.st (mk x l L)).slot i=.pp e y∧resAV (tupT (cs.map .ptr)) x (i - 1)=.val (.ptr e) (some y))∨(i=0∧(c.sin.st (mk x l L)).slot i=.yld l)∨(i=TRS∧(c.sin.st (mk x l L)).slot i=.tr l A L [] false))
    (hbl:c.sin.blks=[]) (hout:∀ τ,∃ n st l L,(c.out.st τ).slot TRS=.tr l A L n st)
    (hpl:∀ x l,(∃ L,S x L)→(c.sh (mk x l (S x))).safe∧∀ τ,(c.sh (mk x l (S x))).out τ→∀ l' L' p,(c.out.st τ).slot TRS=.tr l' A L' p false→S x p):CItSpec P k ⟨cs,A,S⟩:=by
  refine ⟨h.enter,fun F w args x hF hG hargs hne l IL Y hY hpok0 hI0=>?_⟩
  have hok:=proto_of hpok0
  obtain ⟨hal,hav⟩:=args_ok (H:=fun _=>⟨0,.dead⟩) (κ:=fun _=>⟨0,0,0,false⟩) (tupT (cs.map .ptr)) hargs hts
  have hblk:∀ b,(c.sin.st (mk x l (S x))).blk b=⟨0,.dead⟩:=fun b=>by
    show lookB (blksL gId c.sin.blks (slotsL gId c.sin.slots (mk x l (S x))).2) b=_
    generalize (slotsL gId c.sin.slots (mk x l (S x))).2=z
    revert z
    rw [hbl]
    intro z
    rfl
  have hsz:(Value.func (.yield l) #[] #[]::args).length=c.nargs:=by rw [hn,List.length_cons,hal]
  have hr:RelK { P:=P,w0:=w,F0:=F,K0:=fun r=>r<w.heap.size∧¬Y r,nt:=c.nargs,r:=none,dfr:=[],an:=fun _=>none,pr:=⟨l,A,S x,IL⟩,ft:=U } (c.sin.st (mk x l (S x)))
      { tmps:=(Value.func (.yield l) #[] #[]::args).toArray,defers:=[] } w (fun _=>⟨0,0,0,false⟩) F:=
    { tsz := by simpa using hsz
      dfr:=rfl
      slots:=fun i=>by
        rcases hsl x l (S x) i hne with e | ⟨hi,hi0,te,y,e,ey⟩ | ⟨hi,e⟩ | ⟨hi,e⟩
        · rw [e];trivial
        · rw [e]
          have:=(args_ok (H:=(c.sin.st (mk x l (S x))).blk) (κ:=fun _=>⟨0,0,0,false⟩) (tupT (cs.map .ptr)) hargs hts).2 (i - 1) (by omega)
          have e2:(Value.func (.yield l) #[] #[]::args).toArray.getD i undef=args.getD (i - 1) undef:=by
            obtain ⟨j,rfl⟩:∃ j,i=j+1:=⟨i - 1,by omega⟩
            rw [Array.getD_eq_getD_getElem?,List.getD_eq_getElem?_getD,List.getElem?_toArray,List.getElem?_cons_succ]
            rfl
          rw [e2]
          rw [ey] at this
          obtain ⟨_,hv⟩:=(RV_leaf rfl).1 this
          simp only [RC] at hv
          rcases hv with ⟨_,hn⟩ | ⟨q,y',ds,hq,hy',k1,k2⟩
          · cases hn
          · cases hy'
            exact ⟨q,ds,(List.cons.inj hq).1,k1,k2⟩
        · rw [e]
          subst hi
          rfl
        · rw [e];trivial
      blks:=fun b=>by unfold HB;rw [hblk b];trivial
      own:=fun b hb=>by rw [hblk b] at hb;cases hb
      inj:=fun b b' hb _ _=>by rw [hblk b] at hb;cases hb
      fsz:=hF
      flo:=fun r hr=>.inl hr
      fhi:=fun r hr=>hr
      ksz:=fun r hr=>hr.1
      keep:=fun _ _=>rfl
      size:=Nat.le_refl _
      calm:=Calm.refl _
      nsz:=hn2
      aran:=fun b r h=>by cases h
      anch:=fun b r h=>by cases h
      ara:=fun b k h=>by cases h
      anA:=fun b k h=>by cases h
      pro:=fun l' A' L' n st e=>by
        rcases hsl x l (S x) TRS hne with e' | ⟨hi,_⟩ | ⟨hi,_⟩ | ⟨_,e'⟩
        · rw [e'] at e;cases e
        · unfold TRS TMAX at *;omega
        · unfold TRS at hi;omega
        · rw [e'] at e
          cases e
          exact ⟨⟨IL,rfl⟩,hok,Y,fun r hr=>⟨(hY r hr).1,(hY r hr).2,fun k=>k.2 hr⟩,fun b hb=>(by rw [hblk b] at hb;cases hb),Proto.at_mk.2 hI0⟩
      pool:=fun e' m hm=>by rw [hblk POOLN] at hm;cases hm
      ftok:=hU,glob:=hG }
  obtain ⟨hs,hpost⟩:=hpl x l hne
  have harr:#[Value.func (.yield l) #[] #[]]++args.toArray=(Value.func (.yield l) #[] #[]::args).toArray:=by simp
  rw [harr]
  refine (h.calls _ _ w _ F _ rfl rfl rfl rfl rfl rfl hr hs).mono fun e w' ⟨v,τ,vs,κ',F',he,hτ,_,hr'⟩=>?_
  obtain ⟨n,st,l',L',hslot⟩:=hout τ
  obtain ⟨⟨I',hI'⟩,_,Y',h3,h4,h5'⟩:=hr'.pro l' A L' n st hslot
  refine ⟨v,n,st,F',Y',he,fun hst=>?_,Proto.at_mk.1 h5',hr'.fhi,fun r hr2=>?_,hr'.fsz,fun r h1 h2=>hr'.keep r ⟨h1,h2⟩,fun r hr2=>⟨?_,(h3 r hr2).1,(h3 r hr2).2.1⟩,hr'.size,⟨hr'.calm.os,hr'.calm.tape,hr'.calm.output⟩⟩
  · subst hst
    exact hpost τ hτ l' L' n hslot
  · rcases hr'.flo r hr2 with h | h
    · exact .inl h
    · by_cases hy:Y r
      · exact .inr (.inl hy)
      · exact .inr (.inr (Nat.le_of_not_lt fun hlt=>h ⟨hlt,hy⟩))
  · by_cases hy:Y r
    · exact .inl hy
    · exact .inr (Nat.le_of_not_lt fun hlt=>(h3 r hr2).2.2 ⟨hlt,hy⟩)
end Go.Fer
namespace Go.Fer
open Go.RowKit Go.ChangeShapes Go.WideShapes
def Ty.law:Ty→Bool
 | .bool | .int _ | .str | .unit=>true
 | .st t=>t.law
 | .prod a b=>a.law&&b.law
 | .slice e=>e.law
 | _=>false
def Ty.Ok:(t:Ty)→t.Den→Prop
 | .int k,x=>InR k x
 | .str,x=>x.length<2 ^ 63
 | .st t,x=>t.Ok x
 | .prod a b,x=>a.Ok x.1∧b.Ok x.2
 | .slice e,xs=>xs.length<2 ^ 63∧∀ y∈xs,e.Ok y
 | .array n e,xs=>xs.length=n∧∀ y∈xs,e.Ok y
 | _,_=>True
theorem RC_ok {P:Program} {w:World} {F:Nat→Prop}:∀ (t:Ty) {cs:List Value} {x:t.Den},RC P t F w cs x→t.Ok x
 | .bool,_,_,_=>trivial
 | .int _,_,_,h=>h.2
 | .str,_,_,h=>h.2
 | .unit,_,_,_=>trivial
 | .st t,_,_,h=>by simp only [RC] at h;exact RC_ok t h
 | .prod a b,_,_,h=>by
  simp only [RC] at h
  obtain ⟨c,d,_,h1,h2⟩:=h
  exact ⟨RC_ok a h1,RC_ok b h2⟩
 | .slice e,_,xs,h=>by
  simp only [RC] at h
  obtain ⟨a,cap,_,h1,h2,h3,h4⟩:=h
  refine ⟨by omega,fun y hy=>?_⟩
  obtain ⟨i,hi,rfl⟩:=List.mem_iff_getElem.1 hy
  cases a with
  | none=>have:=h3 rfl;omega
  | some p=>
   obtain ⟨ds,_,k⟩:=(h4 p rfl (by omega)).2.2 i hi
   exact RC_ok e k
 | .array n e,_,xs,h=>by
  simp only [RC] at h
  obtain ⟨css,_,h1,h2,h3⟩:=h
  refine ⟨h2,fun y hy=>?_⟩
  obtain ⟨i,hi,rfl⟩:=List.mem_iff_getElem.1 hy
  exact RC_ok e (h3 i hi (by omega))
 | .ptr _,_,_,_=>trivial
 | .map _ _,_,_,_=>trivial
 | .fn _ _,_,_,_=>trivial
 | .it _,_,_,_=>trivial
 | .raws _,_,_,_=>trivial
section
variable {H:Type} {enc:TypeId×Value→H} {P:Program} {w:World}
theorem TyIs.cells {t:Ty} {id:TypeId} (h:TyIs P t id):P.cellsOf id=t.size:=by
 obtain ⟨i,z,h1,h2,_⟩:=infoOk_out h.info
 simp [Program.cellsOf,h1,h2]
theorem cells?_holds {a:Addr} {n:Nat} {ds:List Value} (h:w.cells? 0 a n=some ds) (hn:0<n):a.spot=none∧a.block<w.heap.size∧ds.length=n∧∀ j (hj:j<ds.length),w.cell? ⟨a.block,a.off+j,none⟩=some ds[j]:=by
 have hb:=World.cells?_block h hn
 have hsp:a.spot=none:=by
  unfold World.cells? at h
  split at h
  ·obtain ⟨m,rfl⟩:∃ m,n=m+1:=⟨n - 1,by omega⟩
   rw [List.range_succ_eq_map] at h
   simp only [List.mapM_cons,Option.bind_eq_bind,Option.bind_eq_some_iff] at h
   obtain ⟨v,hv,_⟩:=h
   cases hs:a.spot with
   | none=>rfl
   | some x=>simp [World.cell?,Addr.add,hs] at hv;split at hv<;>cases hv
  ·cases h
 unfold World.cells? at h
 split at h
 ·have hlen:ds.length=n:=by
   have:∀ (l:List Nat) (r:List Value),l.mapM (fun i=>w.cell? (a.add i))=some r→r.length=l.length:=by
    intro l
    induction l with
    | nil=>intro r hr;simp at hr;subst hr;rfl
    | cons x l ih=>
     intro r hr
     simp only [List.mapM_cons,Option.bind_eq_bind,Option.bind_eq_some_iff,Option.pure_def,Option.some.injEq] at hr
     obtain ⟨v,_,r',hr',rfl⟩:=hr
     simp [ih r' hr']
   simpa using this _ _ h
  refine ⟨hsp,hb,hlen,fun j hj=>?_⟩
  have:∀ (l:List Nat) (r:List Value),l.mapM (fun i=>w.cell? (a.add i))=some r→∀ j (h1:j<l.length) (h2:j<r.length),w.cell? (a.add l[j])=some r[j]:=by
   intro l
   induction l with
   | nil=>intro r _ j h1;simp at h1
   | cons x l ih=>
    intro r hr j h1 h2
    simp only [List.mapM_cons,Option.bind_eq_bind,Option.bind_eq_some_iff,Option.pure_def,Option.some.injEq] at hr
    obtain ⟨v,hv,r',hr',rfl⟩:=hr
    cases j with
    | zero=>exact hv
    | succ j=>exact ih r' hr' j (by simpa using h1) (by simpa using h2)
  have h1:=this _ _ h j (by simp;omega) hj
  rw [←h1]
  have ea:a.add ((List.range n)[j]'(by simp;omega))=⟨a.block,a.off+j,none⟩:=by
   cases a
   simp only at hsp
   subst hsp
   simp [Addr.add]
  rw [ea]
 ·cases h
def AllF (w:World):Nat→Prop:=fun r=>r<w.heap.size
theorem trod_RC (t:Ty):(t.law=true→∀ {id:TypeId} {fuel:Nat} {cs:List Value} {x:DataW H×List MemPlace},TyIs P t id→DataW.trod enc P w 0 (fun _=>true) true fuel id cs=some x→∃ y,RC P t (AllF w) w cs y)∧
  (t.law=true→∀ {l:List Field} {off n:Nat} {cs:List Value},tyChk P t (.inr (l,off))=true→(∀ f∈l,∃ x,DataW.trod enc P w 0 (fun _=>true) true n f.type ((cs.drop f.offset).take (P.cellsOf f.type))=some x)→∃ y,RC P t (AllF w) w ((cs.drop off).take t.size) y):=by
 induction t with
 | bool=>
  refine ⟨fun _ {id fuel cs x} ht h=>?_,fun _ {l off n cs} h=>by simp [tyChk] at h⟩
  have hu:P.underlying id=some .bool:=by
   unfold TyIs at ht
   simp only [tyChk,Bool.and_eq_true] at ht
   obtain ⟨_,ht⟩:=ht
   split at ht
   ·assumption
   ·cases ht
  obtain ⟨b,rfl,_⟩:=DataW.trod_bool hu h
  exact ⟨b,rfl⟩
 | int k=>
  refine ⟨fun _ {id fuel cs x} ht h=>?_,fun _ {l off n cs} h=>by simp [tyChk] at h⟩
  obtain ⟨n,rfl,_,hw⟩:=DataW.trod_int ht.int h
  simp only [Lit.wf,Bool.and_eq_true,decide_eq_true_eq] at hw
  exact ⟨n,rfl,hw⟩
 | str=>
  refine ⟨fun _ {id fuel cs x} ht h=>?_,fun _ {l off n cs} h=>by simp [tyChk] at h⟩
  obtain ⟨s,rfl,_,hw⟩:=DataW.trod_string ht.str h
  refine ⟨s.data.toList,by simp,?_⟩
  have:s.data.toList.length=s.size:=by rw [Array.length_toList];rfl
  rw [this]
  have:maxLen<2 ^ 63:=by decide
  omega
 | unit=>exact ⟨fun _ {id fuel cs x} ht h=>by simp [TyIs,tyChk] at ht,fun _ {l off n cs} h=>by simp [tyChk] at h⟩
 | st t ih=>
  refine ⟨fun hl {id fuel cs x} ht h=>?_,fun _ {l off n cs} h=>by simp [tyChk] at h⟩
  have hl:t.law=true:=hl
  have hcells:P.cellsOf id=t.size:=ht.cells
  obtain ⟨fs,hu⟩:=ht.st
  obtain ⟨xs,n,_,rfl,hlen,hxl,hf⟩:=DataW.trod_struct hu h
  unfold TyIs at ht
  simp only [tyChk,Bool.and_eq_true] at ht
  obtain ⟨_,ht⟩:=ht
  rw [hu] at ht
  have hfs:∀ f∈fs.toList,∃ x,DataW.trod enc P w 0 (fun _=>true) true n f.type ((cs.drop f.offset).take (P.cellsOf f.type))=some x:=by
   intro f hfm
   obtain ⟨i,hi,rfl⟩:=List.mem_iff_getElem.1 hfm
   have hi':i<fs.size:=by simpa using hi
   refine ⟨xs[i]'(by omega),?_⟩
   rw [hf i _ (by simp [hi'])]
   exact List.getElem?_eq_getElem _
  simp only at ht
  split at ht
  ·have ht:=of_decide_eq_true ht
   subst ht
   have:cs=[]:=by
    have:=hlen.trans hcells
    simpa [Ty.size] using this
   subst this
   exact ⟨(),rfl⟩
  ·rename_i f hfl
   simp only [Bool.and_eq_true,beq_iff_eq,bne_iff_ne] at ht
   obtain ⟨⟨⟨h0,h1⟩,_⟩,_⟩:=ht
   obtain ⟨x,hx⟩:=hfs f (by rw [hfl];simp)
   have hc:P.cellsOf f.type=t.size:=TyIs.cells h1
   rw [h0,hc,List.drop_zero,List.take_of_length_le (by omega)] at hx
   obtain ⟨y,hy⟩:=ih.1 hl h1 hx
   exact ⟨y,hy⟩
  ·obtain ⟨y,hy⟩:=ih.2 hl ht hfs
   rw [List.drop_zero,List.take_of_length_le (by omega)] at hy
   exact ⟨y,hy⟩
 | prod a b iha ihb=>
  refine ⟨fun _ {id fuel cs x} ht h=>by simp [TyIs,tyChk] at ht,fun hl {l off n cs} ht h=>?_⟩
  simp only [Ty.law,Bool.and_eq_true] at hl
  have join:∀ {y:a.Den} {z:b.Den},RC P a (AllF w) w ((cs.drop off).take a.size) y→RC P b (AllF w) w ((cs.drop (off+a.size)).take b.size) z→∃ y,RC P (.prod a b) (AllF w) w ((cs.drop off).take (Ty.prod a b).size) y:=by
   intro y z hy hz
   refine ⟨(y,z),_,_,?_,hy,hz⟩
   simp only [Ty.size]
   rw [List.take_add,List.drop_drop]
  match l,ht with
  | f::g::[],ht=>
   simp only [tyChk,Bool.and_eq_true,beq_iff_eq,bne_iff_ne] at ht
   obtain ⟨⟨⟨⟨h0,h1⟩,_⟩,_⟩,⟨⟨⟨k0,k1⟩,_⟩,_⟩⟩:=ht
   obtain ⟨x,hx⟩:=h f (by simp)
   obtain ⟨x',hx'⟩:=h g (by simp)
   rw [h0,TyIs.cells h1] at hx
   rw [k0,TyIs.cells k1] at hx'
   obtain ⟨y,hy⟩:=iha.1 hl.1 h1 hx
   obtain ⟨z,hz⟩:=ihb.1 hl.2 k1 hx'
   exact join hy hz
  | f::g::e::fs,ht=>
   simp only [tyChk,Bool.and_eq_true,beq_iff_eq,bne_iff_ne] at ht
   obtain ⟨⟨⟨⟨h0,h1⟩,_⟩,_⟩,k1⟩:=ht
   obtain ⟨x,hx⟩:=h f (by simp)
   rw [h0,TyIs.cells h1] at hx
   obtain ⟨y,hy⟩:=iha.1 hl.1 h1 hx
   obtain ⟨z,hz⟩:=ihb.2 hl.2 k1 fun f' hf'=>h f' (List.mem_cons_of_mem _ hf')
   exact join hy hz
 | slice e ih=>
  refine ⟨fun hl {id fuel cs x} ht h=>?_,fun _ {l off n cs} h=>by simp [tyChk] at h⟩
  have hl:e.law=true:=hl
  obtain ⟨i,hu,he,hsz⟩:=ht.sl
  have hcells:=he.cells
  rcases DataW.trod_slice hu h with ⟨rfl,_⟩ | ⟨a,len,cap,elems,rest,n,rfl,rfl,_,_,hlc,hcap,hel,hget,hmore,_⟩
  ·exact ⟨[],none,0,rfl,Nat.le_refl _,by decide,fun _=>rfl,fun p hp=>by cases hp⟩
  ·have hpos:0<P.cellsOf i:=by rw [hcells];omega
   have key:∀ j,j<len→∃ ds y,w.cells? 0 (a.add (j*P.cellsOf i)) (P.cellsOf i)=some ds∧RC P e (AllF w) w ds y:=by
    intro j hj
    have:=hget j hj
    rw [List.getElem?_eq_getElem (by omega)] at this
    obtain ⟨ds,h1,h2⟩:=Option.bind_eq_some_iff.1 this
    obtain ⟨y,hy⟩:=ih.1 hl he h2
    exact ⟨ds,y,h1,hy⟩
   have some0:0<cap→a.spot=none∧a.block<w.heap.size:=by
    intro hc
    have:∃ ds,w.cells? 0 (a.add (0*P.cellsOf i)) (P.cellsOf i)=some ds:=by
     by_cases hl0:0<len
     ·obtain ⟨ds,_,h1,_⟩:=key 0 hl0
      exact ⟨ds,h1⟩
     ·obtain ⟨m1,m2⟩:=hmore rfl
      have hz:len=0:=by omega
      subst hz
      have:=m2 0 (by omega)
      rw [List.getElem?_eq_getElem (by omega)] at this
      obtain ⟨ds,h1,_⟩:=Option.bind_eq_some_iff.1 this
      exact ⟨ds,h1⟩
    obtain ⟨ds,h1⟩:=this
    have e1:a.add (0*P.cellsOf i)=a:=by unfold Addr.add;simp
    rw [e1] at h1
    obtain ⟨k1,k2,_⟩:=cells?_holds h1 hpos
    exact ⟨k1,k2⟩
   have:∃ ys:List e.Den,ys.length=len∧∀ j (hj:j<ys.length),∃ ds,w.cells? 0 (a.add (j*P.cellsOf i)) (P.cellsOf i)=some ds∧RC P e (AllF w) w ds ys[j]:=by
    clear hget hel h hlc hmore
    induction len with
    | zero=>exact ⟨[],rfl,fun j hj=>by simp at hj⟩
    | succ m ihm=>
     obtain ⟨ys,hys,hh⟩:=ihm fun j hj=>key j (by omega)
     obtain ⟨ds,y,h1,h2⟩:=key m (by omega)
     refine ⟨ys++[y],by simp [hys],fun j hj=>?_⟩
     by_cases hjm:j<ys.length
     ·rw [List.getElem_append_left hjm];exact hh j hjm
     ·have:j=m:=by simp at hj;omega
      subst this
      refine ⟨ds,h1,?_⟩
      rw [List.getElem_append_right (by omega)]
      simpa [hys] using h2
   obtain ⟨ys,rfl,hys⟩:=this
   have hmax:maxLen<2 ^ 63:=by decide
   refine ⟨ys,some a,cap,rfl,hlc,by omega,(by simp),fun p hp hc0=>?_⟩
   cases hp
   obtain ⟨k1,k2⟩:=some0 hc0
   refine ⟨k2,k1,fun j hj=>?_⟩
   obtain ⟨ds,d1,d2⟩:=hys j hj
   obtain ⟨m1,m2,m3,m4⟩:=cells?_holds d1 hpos
   refine ⟨ds,⟨k2,rfl,fun q hq=>?_⟩,d2⟩
   have:=m4 q hq
   have e1:a.add (j*P.cellsOf i)=⟨a.block,a.off+j*e.size,none⟩:=by
    rw [hcells]
    cases a
    simp only at k1
    subst k1
    unfold Addr.add
    split
    ·rename_i h0;simp [h0]
    ·rfl
   rw [e1] at this
   exact this
 | array n e ih=>exact ⟨fun h=>by simp [Ty.law] at h,fun h=>by simp [Ty.law] at h⟩
 | ptr e ih=>exact ⟨fun h=>by simp [Ty.law] at h,fun h=>by simp [Ty.law] at h⟩
 | map k v ihk ihv=>exact ⟨fun h=>by simp [Ty.law] at h,fun h=>by simp [Ty.law] at h⟩
 | fn a b iha ihb=>exact ⟨fun h=>by simp [Ty.law] at h,fun h=>by simp [Ty.law] at h⟩
 | it a ih=>exact ⟨fun h=>by simp [Ty.law] at h,fun h=>by simp [Ty.law] at h⟩
 | raws e ih=>exact ⟨fun h=>by simp [Ty.law] at h,fun h=>by simp [Ty.law] at h⟩
theorem arg_RV {t:Ty} (hl:t.law=true) {id:TypeId} (ht:TyIs P t id) {base:Nat} {v:Value} {d:DataW H} {ps:List MemPlace} (hok:Value.okWide P w .any base id v)
  (h:DataW.Trod enc P w 0 (fun _=>true) true id v d ps):∃ y,RV P t (AllF w) w v y:=by
 obtain ⟨n,hn⟩:=h
 obtain ⟨y,hy⟩:=(trod_RC t).1 hl ht hn
 refine ⟨y,?_,hy⟩
 cases t with
 | bool=>
  simp only [RC] at hy
  have hu:P.underlying id=some .bool:=by
   unfold TyIs at ht
   simp only [tyChk,Bool.and_eq_true] at ht
   obtain ⟨_,ht⟩:=ht
   split at ht
   ·assumption
   ·cases ht
  simp only [Value.okWide,hu,Cell.okWide,Cell.ok] at hok
  cases v<;>first | rfl | exact hok.elim
 | int k=>
  simp only [Value.okWide,ht.int,Cell.okWide,Cell.ok] at hok
  cases v<;>first | rfl | exact hok.elim
 | str=>
  simp only [Value.okWide,ht.str,Cell.okWide,Cell.ok] at hok
  cases v<;>first | rfl | exact hok.elim
 | unit=>simp [TyIs,tyChk] at ht
 | st t=>
  obtain ⟨fs,hu⟩:=ht.st
  simp only [Value.okWide,hu] at hok
  obtain ⟨cs,rfl,hc,_⟩:=hok
  exact ⟨cs,rfl,hc.trans ht.cells⟩
 | prod a b=>simp [TyIs,tyChk] at ht
 | slice e=>
  obtain ⟨i,hu,_⟩:=ht.sl
  simp only [Value.okWide,hu,Cell.okWide,Cell.ok] at hok
  cases v<;>first | rfl | exact hok.elim
 | array n e=>simp [Ty.law] at hl
 | ptr e=>simp [Ty.law] at hl
 | map k v=>simp [Ty.law] at hl
 | fn a b=>simp [Ty.law] at hl
 | it a=>simp [Ty.law] at hl
 | raws e=>simp [Ty.law] at hl
def argsChk (P:Program):List TypeId→Ty→Bool
 | [id],t=>tyChk P t (.inl id)&&t.law
 | id::ids,.prod a b=>tyChk P a (.inl id)&&a.law&&argsChk P ids b
 | _,_=>false
theorem args_RC:∀ (ids:List TypeId) (ts:Ty) {base:Nat} {vs:List Value} {ds:List (DataW H)} {ps:List MemPlace},argsChk P ids ts=true→DataW.TrodAll enc P w 0 (fun _=>true) true ids vs ds ps→
  (∀ (j:Nat) t v,ids[j]?=some t→vs[j]?=some v→Value.okWide P w .any base t v)→∃ x,RArgs P ts (AllF w) w vs x
 | [],ts,_,vs,ds,ps,h,_,_=>by simp [argsChk] at h
 | [id],t,_,vs,ds,ps,h,hA,hok=>by
  simp only [argsChk,Bool.and_eq_true] at h
  obtain ⟨v0,vs0,d0,ds0,p0,q0,rfl,rfl,rfl,h0,r0⟩:=trodAll_cons hA
  obtain ⟨rfl,rfl,rfl⟩:=trodAll_nil r0
  obtain ⟨y,hy1,hy2⟩:=arg_RV h.2 h.1 (hok 0 id v0 rfl rfl) h0
  refine ⟨y,?_,by simpa [flat] using hy2⟩
  cases t<;>first | exact ⟨v0,rfl,hy1⟩ | (simp [tyChk] at h;done)
 | id::id2::ids,ts,base,vs,ds,ps,h,hA,hok=>by
  cases ts with
  | prod a b=>
   simp only [argsChk,Bool.and_eq_true] at h
   obtain ⟨v0,vs0,d0,ds0,p0,q0,rfl,rfl,rfl,h0,r0⟩:=trodAll_cons hA
   obtain ⟨y,hy1,hy2⟩:=arg_RV h.1.2 h.1.1 (hok 0 id v0 rfl rfl) h0
   obtain ⟨z,hz1,hz2⟩:=args_RC (id2::ids) b h.2 r0 fun j t v h1 h2=>hok (j+1) t v (by simpa using h1) (by simpa using h2)
   exact ⟨(y,z),⟨hy1,hz1⟩,_,_,flat_cons _ _,hy2,hz2⟩
  | _=>simp [argsChk] at h
theorem trodAll_stays (hl:laidOutB P=true) {w':World} {sp':Nat→Bool}:∀ (ids:List TypeId) {vs:List Value} {ds:List (DataW H)} {ps:List MemPlace},(ids.all fun t=>P.readableRec t&&decide (t<P.types.size))=true→
  DataW.TrodAll enc P w 0 (fun _=>true) true ids vs ds ps→(∀ p∈ps,w.sameAt w' p)→(∀ p∈ps,sp' p.block=true)→DataW.TrodAll enc P w' 0 sp' true ids vs ds ps
 | [],_,_,_,_,h,_,_=>by
  obtain ⟨rfl,rfl,rfl⟩:=trodAll_nil h
  rfl
 | id::ids,vs,ds,ps,hr,h,h1,h2=>by
  simp only [List.all_cons,Bool.and_eq_true,decide_eq_true_eq] at hr
  obtain ⟨v0,vs0,d0,ds0,p0,q0,rfl,rfl,rfl,h0,r0⟩:=trodAll_cons h
  exact trodAll_cons_mk (Go.WideElems.Trod_stays hl hr.1.1 hr.1.2 h0 (fun p hp=>h1 p (List.mem_append_left _ hp)) (fun p hp=>h2 p (List.mem_append_left _ hp)))
   (trodAll_stays hl ids hr.2 r0 (fun p hp=>h1 p (List.mem_append_right _ hp)) (fun p hp=>h2 p (List.mem_append_right _ hp)))
theorem law_contract {k:FuncId} {fn:Func} {ts:Ty} {sh:ts.Den→M (Ty.bool).Den} {spec:ChangeSpec} {rt:TypeId} (hlay:laidOutB P=true) (hspec:FnSpec P k ts .bool sh) (hlaw:∀ x,ts.Ok x→M.Ret (sh x) fun y=>y=true)
  (hargs:argsChk P fn.params.toList ts=true) (hread:(fn.params.toList.all fun t=>P.readableRec t&&decide (t<P.types.size))=true) (hres:fn.resultTypes=#[rt]) (hrt:P.underlying rt=some .bool)
  (hv:spec.vars=[]) (hfn:∀ (H:Type) (ds:List (DataW H)),ds.length=fn.params.size→spec.fn H ds={ results:=[.lit (.bool true)],args:=ds })
  {base:Nat} {args:Array Value} {ds gs:List (DataW H)} {before:List MemPlace} (hval:∀ (j:Nat) t v,fn.params[j]?=some t→args[j]?=some v→Value.okWide P w .any base t v)
  (hW:DataW.Whole enc P fn.params.toList spec.vars false w args.toList ds gs before) (hG:GlOk P (AllF w) w:=by exact fun h=>absurd (by kernel_rfl) h) :
  Calls P k args w fun e W'=>∃ v,e=.returned v∧spec.post enc P fn false true false false w args v W':=by
 have hlt:=hW.lt
 have hW':=hW
 obtain ⟨p,q,hA,hV,rfl,hfz,_⟩:=hW
 have hq:gs=[]∧q=[]:=by
  rw [hv] at hV
  cases gs with
  | nil=>exact ⟨rfl,hV⟩
  | cons _ _=>exact hV.elim
 obtain ⟨rfl,rfl⟩:=hq
 simp only [List.append_nil] at hW' hlt hfz
 obtain ⟨x,hx⟩:=args_RC fn.params.toList ts hargs hA fun j t v h1 h2=>hval j t v (by simpa using h1) (by simpa using h2)
 obtain ⟨hs,ho⟩:=hlaw x (RC_ok ts hx.2)
 have hdl:ds.length=fn.params.size:=by
  have:∀ (ids:List TypeId) {vs:List Value} {ds:List (DataW H)} {ps:List MemPlace},DataW.TrodAll enc P w 0 (fun _=>true) true ids vs ds ps→ds.length=ids.length:=by
   intro ids
   induction ids with
   | nil=>intro vs ds ps h;obtain ⟨rfl,rfl,rfl⟩:=trodAll_nil h;rfl
   | cons id ids ih=>intro vs ds ps h;obtain ⟨v0,vs0,d0,ds0,p0,q0,rfl,rfl,rfl,h0,r0⟩:=trodAll_cons h;simp [ih r0]
  simpa using this _ hA
 have hc:=hspec.calls (AllF w) w args.toList x (fun _ h=>h) hG hx hs
 refine hc.mono fun e W' ⟨v,y,he,hy,hr,hb⟩=>?_
 have hy:=ho y hy
 subst hy
 obtain ⟨vs,r1,r2⟩:=hr
 have hvb:v=.bool true:=by
  simp only [ResVal] at r1
  subst r1
  obtain ⟨⟨u,hu,hsh⟩,hrc⟩:=r2
  simp only [List.cons.injEq,and_true] at hu
  subst hu
  simp only [VShape] at hsh
  simp only [flat_cons,hsh,flat_nil,RC] at hrc
  simpa using hrc
 subst hvb
 have hsame:∀ p'∈p,w.sameAt W' p':=by
  intro p' hp
  have h1:=hb.block _ (hlt p' hp)
  cases p' with
  | cell b off=>simp only [World.sameAt,World.cell?];simp only [MemPlace.block] at h1;rw [h1]
  | map b=>exact h1
 refine ⟨_,he,ds,[],p,[],p,[],hW',?_,?_,?_,?_,fun h=>by cases h⟩
 ·rw [List.append_nil,hfn H ds hdl,hres]
  exact trodAll_cons_mk (shut_bool hrt true) trodAll_mk0
 ·rw [List.append_nil,hfn H ds hdl]
  exact trodAll_stays hlay _ hread hA hsame fun p' hp=>by simpa using hlt p' hp
 ·rw [hv,List.append_nil,hfn H ds hdl]
  rfl
 ·refine ⟨hb.os,hb.output,fun i hi=>?_⟩
  have h1:=hb.block i hi
  rw [h1]
  exact (World.keptBut_refl w fun p_1=>p_1∈p∧(p_1∈[]∨p_1∈p∨p_1∈[])).2.2 i hi
end
end Go.Fer
namespace Go.Fer.Sk
open Go.Proofs
abbrev t3:Ty:=.int .i64
abbrev t4:Ty:=.bool
abbrev t5:Ty:=.int .u8
abbrev t2:Ty:=.int .i64
abbrev t6:Ty:=.int .u8
abbrev t8:Ty:=.st (.prod t2 (.prod t3 (.prod t4 t6)))
abbrev t9:Ty:=.str
abbrev t10:Ty:=.str
abbrev t11:Ty:=.str
abbrev t21:Ty:=.int .i32
abbrev t22:Ty:=.slice t9
abbrev t41:Ty:=.st (.prod t3 t3)
abbrev t23:Ty:=.slice t41
abbrev t24:Ty:=.fn t22 t4
abbrev t26:Ty:=.int .i64
abbrev t29:Ty:=.slice t3
abbrev t44:Ty:=.fn t9 t4
abbrev t48:Ty:=.st (.prod t23 (.prod t23 t4))
abbrev t55:Ty:=.slice t5
abbrev t56:Ty:=.slice t3
abbrev t63:Ty:=.slice t55
abbrev t59:Ty:=.slice t63
abbrev t64:Ty:=.int .i64
abbrev t66:Ty:=.st (.prod t3 t3)
abbrev t70:Ty:=.slice t22
abbrev t82:Ty:=.ptr (.array 82 .unit)
abbrev t84:Ty:=.st (.prod t82 t55)
abbrev t85:Ty:=.it t22
abbrev t86:Ty:=.it t22
abbrev t96:Ty:=.fn t55 t4
abbrev t102:Ty:=.fn t5 t4
abbrev t112:Ty:=.ptr t5
abbrev t115:Ty:=.int .i64
abbrev t121:Ty:=.int .u64
abbrev t128:Ty:=.ptr t115
abbrev t129:Ty:=.int .u32
abbrev t132:Ty:=.int .u64
abbrev t142:Ty:=.array 256 t5
abbrev t144:Ty:=.st (.prod t5 t5)
abbrev t145:Ty:=.array 16 t144
abbrev t152:Ty:=.int .u8
def tab:List (Nat×Ty):=[(3,t3),(4,t4),(5,t5),(8,t8),(9,t9),(10,t10),(11,t11),(21,t21),(22,t22),(23,t23),(24,t24),(26,t26),(29,t29),(41,t41),(44,t44),(48,t48),(55,t55),(56,t56),(59,t59),(63,t63),(64,t64),(66,t66),(70,t70),(82,t82),(84,t84),(85,t85),(86,t86),(96,t96),(102,t102),(112,t112),(115,t115),(121,t121),(128,t128),(129,t129),(132,t132),(142,t142),(144,t144),(145,t145),(152,t152)]
theorem tabOk:TabOk Tryd.prog (tabT tab):=tabT_ok (by kernel_rfl)
theorem mixOk:Tryd.prog.follows .mixedOrders=true:=by kernel_rfl
def noPhi (_:Nat):Option FC:=none
theorem noPhi_ok:CtrOk Tryd.prog noPhi:=fun k c h=>by cases h
def noU:FnTab:={ fnv:=fun _=>none,clv:=fun _=>none }
theorem noU_ok:FnTabOk Tryd.prog noU where
 fnv:=fun k v h=>by cases h
 clv:=fun k v h=>by cases h
end Go.Fer.Sk
namespace Go.Fer
theorem M.le_req {α:Type} {p:Prop} {m n:M α} (h:n.safe→p) (k:M.le m n):M.le (M.req p m) n:=fun hs=>⟨⟨h hs,(k hs).1⟩,(k hs).2⟩
theorem isSome_of {α:Type} {o:Option α} {x:α} (h:o=some x):o.isSome=true:=by rw [h];rfl
def capsAll (ts:Ty) (x:ts.Den) (n:Nat):Nat→Prop
 | 0=>True
 | k+1=>capsAll ts x n k∧ptrPre (resAV ts x (n+k))
theorem capsAll_get {ts:Ty} {x:ts.Den} {n:Nat}:∀ {k:Nat},capsAll ts x n k→∀ i,i<k→ptrPre (resAV ts x (n+i))
 | 0,_,i,h=>by omega
 | k+1,hc,i,h=>by
  by_cases e:i=k
  ·rw [e];exact hc.2
  ·exact capsAll_get hc.1 i (by omega)
theorem look_par (ts:Ty) (x:ts.Den):∀ (l:List Nat) (i:Nat),look (l.map fun i=>(i,resAV ts x i)) i=if i∈l then resAV ts x i else .undef
 | [],i=>by simp [look]
 | j::l,i=>by
  simp only [List.map_cons,look]
  by_cases e:i=j
  ·subst e;simp
  ·rw [if_neg e,look_par ts x l i];simp [e]
theorem caps_pre {ts:Ty} {x:ts.Den} {n:Nat} (h:capsAll ts x n (parN ts - n)):capsPre n (parSt ts x):=fun i hi=>by
 show ptrPre (look (parL ts x (parN ts)) i)
 unfold parL
 rw [look_par]
 split
 ·rename_i hm
  rw [List.mem_range] at hm
  have hn:¬i<n:=fun h=>hi (.inl h)
  have:=capsAll_get h (i - n) (by omega)
  rwa [show n+(i - n)=i by omega] at this
 ·trivial
end Go.Fer
namespace Go.Proofs
open Go.Shelf
def Tryd.lays145_ren:Go.Shelf.Ren:=⟨fun | 145=>49 | 220=>70 | 219=>81 | 217=>89 | 225=>90 | 224=>91 | 267=>92 | 266=>97 | 314=>98 | n=>n,fun | 9=>9 | 4=>4 | 59=>93 | 3=>3 | 5=>5 | 46=>121 | 146=>130 | 51=>129 | n=>n,fun | 1=>0 | n=>n⟩
theorem Tryd.lays145 : Go.Proofs.Lays.n145 Tryd.prog Tryd.lays145_ren := {
  mixed:=by kernel_rfl
  f145:=Tryd.func49.trans (congrArg some (by kernel_rfl))
  f217:=Tryd.func89.trans (congrArg some (by kernel_rfl))
  f219:=Tryd.func81.trans (congrArg some (by kernel_rfl))
  f220:=Tryd.func70.trans (congrArg some (by kernel_rfl))
  f224:=Tryd.func91.trans (congrArg some (by kernel_rfl))
  f225:=Tryd.func90.trans (congrArg some (by kernel_rfl))
  f266:=Tryd.func97.trans (congrArg some (by kernel_rfl))
  f267:=Tryd.func92.trans (congrArg some (by kernel_rfl))
  f314:=Tryd.func98.trans (congrArg some (by kernel_rfl))
  t3:=Tryd.underlying3
  a3:=Tryd.isAgg3
  z3:=Tryd.sizeOf3
  v3:=Tryd.zeroValue3
  t4:=Tryd.underlying4
  a4:=Tryd.isAgg4
  z4:=Tryd.sizeOf4
  v4:=Tryd.zeroValue4
  t5:=Tryd.underlying5
  a5:=Tryd.isAgg5
  z5:=Tryd.sizeOf5
  v5:=Tryd.zeroValue5
  t9:=Tryd.underlying9
  a9:=Tryd.isAgg9
  z9:=Tryd.sizeOf9
  v9:=Tryd.zeroValue9
  t46:=Tryd.underlying121
  a46:=Tryd.isAgg121
  z46:=Tryd.sizeOf121
  v46:=Tryd.zeroValue121
  t51:=Tryd.underlying129
  a51:=Tryd.isAgg129
  z51:=Tryd.sizeOf129
  v51:=Tryd.zeroValue129
  t59:=Tryd.underlying93
  a59:=Tryd.isAgg93
  z59:=Tryd.sizeOf93
  v59:=Tryd.zeroValue93
  t146:=Tryd.underlying130
  a146:=Tryd.isAgg130
  z146:=Tryd.sizeOf130
  v146:=Tryd.zeroValue130
  g1:=by kernel_rfl }
open Go.RowKit Go.Lib in
theorem Tryd.strings_Cut (s sep:ByteArray) (m:Int) (w:World) (hs:s.size<4294967281) (hm:w.cell? ⟨0,0,none⟩=some (.int .i64 m)) :
  Calls Tryd.prog 49 #[.string s,.string sep] w fun e w'=>e=.returned (.tuple #[.string ⟨(Lib.cut s.data.toList sep.data.toList).1.toArray⟩,.string ⟨(Lib.cut s.data.toList sep.data.toList).2.1.toArray⟩,.bool (Lib.cut s.data.toList sep.data.toList).2.2])∧∃ n,w'=w.drewN n:=Any.strings_Cut Tryd.lays145 s sep m w hs hm
def Tryd.lays146_ren:Go.Shelf.Ren:=⟨fun | 146=>50 | 221=>71 | 268=>82 | 138=>83 | 143=>84 | 195=>93 | 197=>94 | 218=>95 | 219=>81 | 260=>99 | 217=>89 | 225=>90 | 224=>91 | 267=>92 | 266=>97 | 314=>98 | n=>n,fun | 9=>9 | 31=>22 | 3=>3 | 4=>4 | 0=>0 | 105=>138 | 21=>21 | 5=>5 | 46=>121 | 119=>142 | 139=>145 | 138=>144 | 146=>130 | 51=>129 | n=>n,fun | 1=>0 | 3=>1 | 4=>2 | n=>n⟩
theorem Tryd.lays146 : Go.Proofs.Lays.n146 Tryd.prog Tryd.lays146_ren := {
  mixed:=by kernel_rfl
  f138:=Tryd.func83.trans (congrArg some (by kernel_rfl))
  f143:=Tryd.func84.trans (congrArg some (by kernel_rfl))
  f146:=Tryd.func50.trans (congrArg some (by kernel_rfl))
  f195:=Tryd.func93.trans (congrArg some (by kernel_rfl))
  f197:=Tryd.func94.trans (congrArg some (by kernel_rfl))
  f217:=Tryd.func89.trans (congrArg some (by kernel_rfl))
  f218:=Tryd.func95.trans (congrArg some (by kernel_rfl))
  f219:=Tryd.func81.trans (congrArg some (by kernel_rfl))
  f221:=Tryd.func71.trans (congrArg some (by kernel_rfl))
  f224:=Tryd.func91.trans (congrArg some (by kernel_rfl))
  f225:=Tryd.func90.trans (congrArg some (by kernel_rfl))
  f260:=Tryd.func99.trans (congrArg some (by kernel_rfl))
  f266:=Tryd.func97.trans (congrArg some (by kernel_rfl))
  f267:=Tryd.func92.trans (congrArg some (by kernel_rfl))
  f268:=Tryd.func82.trans (congrArg some (by kernel_rfl))
  f314:=Tryd.func98.trans (congrArg some (by kernel_rfl))
  t0:=Tryd.underlying0
  a0:=Tryd.isAgg0
  z0:=Tryd.sizeOf0
  v0:=Tryd.zeroValue0
  t3:=Tryd.underlying3
  a3:=Tryd.isAgg3
  z3:=Tryd.sizeOf3
  v3:=Tryd.zeroValue3
  t4:=Tryd.underlying4
  a4:=Tryd.isAgg4
  z4:=Tryd.sizeOf4
  v4:=Tryd.zeroValue4
  t5:=Tryd.underlying5
  a5:=Tryd.isAgg5
  z5:=Tryd.sizeOf5
  v5:=Tryd.zeroValue5
  t9:=Tryd.underlying9
  a9:=Tryd.isAgg9
  z9:=Tryd.sizeOf9
  v9:=Tryd.zeroValue9
  t21:=Tryd.underlying21
  a21:=Tryd.isAgg21
  z21:=Tryd.sizeOf21
  v21:=Tryd.zeroValue21
  t31:=Tryd.underlying22
  a31:=Tryd.isAgg22
  z31:=Tryd.sizeOf22
  v31:=Tryd.zeroValue22
  t46:=Tryd.underlying121
  a46:=Tryd.isAgg121
  z46:=Tryd.sizeOf121
  v46:=Tryd.zeroValue121
  t51:=Tryd.underlying129
  a51:=Tryd.isAgg129
  z51:=Tryd.sizeOf129
  v51:=Tryd.zeroValue129
  t105:=Tryd.underlying138
  a105:=Tryd.isAgg138
  z105:=Tryd.sizeOf138
  v105:=Tryd.zeroValue138
  t119:=Tryd.underlying142
  a119:=Tryd.isAgg142
  z119:=Tryd.sizeOf142
  t138:=Tryd.underlying144
  a138:=Tryd.isAgg144
  z138:=Tryd.sizeOf144
  v138:=Tryd.zeroValue144
  t139:=Tryd.underlying145
  a139:=Tryd.isAgg145
  z139:=Tryd.sizeOf145
  v139:=Tryd.zeroValue145
  t146:=Tryd.underlying130
  a146:=Tryd.isAgg130
  z146:=Tryd.sizeOf130
  v146:=Tryd.zeroValue130
  g1:=by kernel_rfl
  g3:=by kernel_rfl
  g4:=by kernel_rfl }
open Go.RowKit Go.Lib in
theorem Tryd.strings_Split (s sep:ByteArray) (m:Int) (w:World) (hs:s.size<4294967281) (hm:w.cell? ⟨0,0,none⟩=some (.int .i64 m)) (h1:1≤sep.size) :
  Calls Tryd.prog 50 #[.string s,.string sep] w fun e w'=>
   e=.returned (.slice (some ⟨w.heap.size,0,none⟩) (Lib.countB s sep+1) (Lib.countB s sep+1))∧w'=w.alloc (.cells ((Lib.splitB sep 0 (Lib.countB s sep) s).map Value.string).toArray 9):=Any.strings_Split Tryd.lays146 (by kernel_rfl) s sep m w hs hm h1
def Tryd.lays105_ren:Go.Shelf.Ren:=⟨fun | 105=>69 | 212=>77 | 99=>78 | 165=>79 | 166=>46 | 170=>80 | 169=>48 | 263=>85 | 264=>86 | 206=>87 | 240=>67 | 241=>88 | 276=>76 | 277=>96 | n=>n,fun | 9=>9 | 3=>3 | 4=>4 | 20=>20 | 0=>0 | 46=>121 | 109=>122 | 5=>5 | 72=>84 | 76=>90 | 51=>129 | 146=>130 | 53=>132 | 148=>133 | 70=>82 | 37=>55 | 75=>89 | 127=>112 | 164=>119 | 80=>79 | n=>n,fun | n=>n⟩
theorem Tryd.lays105 : Go.Proofs.Lays.n105 Tryd.prog Tryd.lays105_ren := {
  mixed:=by kernel_rfl
  f99:=Tryd.func78.trans (congrArg some (by kernel_rfl))
  f105:=Tryd.func69.trans (congrArg some (by kernel_rfl))
  f165:=Tryd.func79.trans (congrArg some (by kernel_rfl))
  f166:=Tryd.func46.trans (congrArg some (by kernel_rfl))
  f169:=Tryd.func48.trans (congrArg some (by kernel_rfl))
  f170:=Tryd.func80.trans (congrArg some (by kernel_rfl))
  f206:=Tryd.func87.trans (congrArg some (by kernel_rfl))
  f212:=Tryd.func77.trans (congrArg some (by kernel_rfl))
  f240:=Tryd.func67.trans (congrArg some (by kernel_rfl))
  f241:=Tryd.func88.trans (congrArg some (by kernel_rfl))
  f263:=Tryd.func85.trans (congrArg some (by kernel_rfl))
  f264:=Tryd.func86.trans (congrArg some (by kernel_rfl))
  f276:=Tryd.func76.trans (congrArg some (by kernel_rfl))
  f277:=Tryd.func96.trans (congrArg some (by kernel_rfl))
  t0:=Tryd.underlying0
  a0:=Tryd.isAgg0
  z0:=Tryd.sizeOf0
  v0:=Tryd.zeroValue0
  t3:=Tryd.underlying3
  a3:=Tryd.isAgg3
  z3:=Tryd.sizeOf3
  v3:=Tryd.zeroValue3
  t4:=Tryd.underlying4
  a4:=Tryd.isAgg4
  z4:=Tryd.sizeOf4
  v4:=Tryd.zeroValue4
  t5:=Tryd.underlying5
  a5:=Tryd.isAgg5
  z5:=Tryd.sizeOf5
  v5:=Tryd.zeroValue5
  t9:=Tryd.underlying9
  a9:=Tryd.isAgg9
  z9:=Tryd.sizeOf9
  v9:=Tryd.zeroValue9
  t20:=Tryd.underlying20
  a20:=Tryd.isAgg20
  z20:=Tryd.sizeOf20
  v20:=Tryd.zeroValue20
  t37:=Tryd.underlying55
  a37:=Tryd.isAgg55
  z37:=Tryd.sizeOf55
  v37:=Tryd.zeroValue55
  t46:=Tryd.underlying121
  a46:=Tryd.isAgg121
  z46:=Tryd.sizeOf121
  v46:=Tryd.zeroValue121
  t51:=Tryd.underlying129
  a51:=Tryd.isAgg129
  z51:=Tryd.sizeOf129
  v51:=Tryd.zeroValue129
  t53:=Tryd.underlying132
  a53:=Tryd.isAgg132
  z53:=Tryd.sizeOf132
  v53:=Tryd.zeroValue132
  t70:=Tryd.underlying82
  a70:=Tryd.isAgg82
  z70:=Tryd.sizeOf82
  v70:=Tryd.zeroValue82
  t72:=Tryd.underlying84
  a72:=Tryd.isAgg84
  z72:=Tryd.sizeOf84
  v72:=Tryd.zeroValue84
  t75:=Tryd.underlying89
  a75:=Tryd.isAgg89
  z75:=Tryd.sizeOf89
  v75:=Tryd.zeroValue89
  t76:=Tryd.underlying90
  a76:=Tryd.isAgg90
  z76:=Tryd.sizeOf90
  v76:=Tryd.zeroValue90
  t109:=Tryd.underlying122
  a109:=Tryd.isAgg122
  z109:=Tryd.sizeOf122
  v109:=Tryd.zeroValue122
  t127:=Tryd.underlying112
  a127:=Tryd.isAgg112
  z127:=Tryd.sizeOf112
  v127:=Tryd.zeroValue112
  t146:=Tryd.underlying130
  a146:=Tryd.isAgg130
  z146:=Tryd.sizeOf130
  v146:=Tryd.zeroValue130
  t148:=Tryd.underlying133
  a148:=Tryd.isAgg133
  z148:=Tryd.sizeOf133
  v148:=Tryd.zeroValue133
  t164:=Tryd.underlying119
  a164:=Tryd.isAgg119
  z164:=Tryd.sizeOf119
  v164:=Tryd.zeroValue119 }
theorem Tryd.Builder_Extra_105 : Builder.Extra Tryd.prog Tryd.lays105_ren := {
  sizeBuilder:=by kernel_rfl
  liesBuilder:=by kernel_rfl
  t5:=Tryd.underlying5
  a5:=Tryd.isAgg5
  z5:=Tryd.sizeOf5
  v5:=Tryd.zeroValue5
  infoByte:=by kernel_rfl
  cellsByte:=by kernel_rfl
  sizeByte:=by kernel_rfl
  neB5:=by decide }
open Go.RowKit Go.Lib in
theorem Tryd.strings_Repeat (s:ByteArray) (c:Nat) (w:World) (hc:c≤9223372036854775807) (hlen:s.size*c≤140737488355328) :
  Calls Tryd.prog 69 #[.string s,.int .i64 c] w fun e w'=>e=.returned (.string ⟨(Lib.repeatL s.data.toList c).toArray⟩)∧Below w.heap.size w w':=Any.strings_Repeat Tryd.lays105 Tryd.Builder_Extra_105 s c w hc hlen
end Go.Proofs
namespace Go.Proofs
open Go.RowKit
def Tryd.okByte (b:UInt8):Bool:=decide (32≤b.toNat)&&decide (b.toNat≤126)
def Tryd.okFrom (s:ByteArray) (pos:Nat):Prop:=∀ i,(h:i<s.size)→pos≤i→Tryd.okByte (s[i]'h)=true
theorem Tryd.okFrom_step (s:ByteArray) (pos:Nat) (h:pos<s.size):Tryd.okFrom s pos↔Tryd.okByte (s[pos]'h)=true∧Tryd.okFrom s (pos+1):=by
 constructor
 ·intro k
  exact ⟨k pos h (Nat.le_refl _),fun i hi hp=>k i hi (by omega)⟩
 ·rintro ⟨k1,k2⟩ i hi hp
  by_cases e:i=pos
  ·subst e;exact k1
  ·exact k2 i hi (by omega)
theorem Tryd.iterPos_of {w:World} {k:Nat} {s:ByteArray} {p:Nat} (h:w.heap[k]?=some (.stringIter s p)):w.iterPos k=p:=by simp [World.iterPos,h]
open Classical in
set_option maxHeartbeats 4000000 in
set_option maxRecDepth 1000000 in
theorem Tryd.isText_walk (s:ByteArray) (w:World) :
  Calls Tryd.prog 29 #[.string s] w fun e w'=>e=.returned (.bool (decide (Tryd.okFrom s 0)))∧Below w.heap.size w w':=by
 go_enter Tryd.func29,Tryd.ntmps29
 go_wp2
 go_loopw [] (fun wr=>∃ (pos:Nat),wr.heap[w.heap.size]?=some (.stringIter s pos)∧Below w.heap.size w wr∧(Tryd.okFrom s pos↔Tryd.okFrom s 0)) (fun wr=>s.size - wr.iterPos w.heap.size)
 case atStart=>exact ⟨0,World.iter_heap w s 0,(Below.refl _ _).alloc (Nat.le_refl _) _,Iff.rfl⟩
 case round=>
  obtain ⟨pos,hit,hbw,hok⟩:=hrel
  have hpos0:=Tryd.iterPos_of hit
  by_cases hp:pos<s.size
  ·have hnx:∀ ty,(Instr.next (.pointer (some ⟨w.heap.size,0,none⟩)) true ty).run Tryd.prog wr=_:=fun ty=>Lib.run_next_any_at wr w.heap.size s pos ty hit hp
   have hit2:=Lib.iterAt_heap wr w.heap.size s pos (pos+(Utf8.decode s pos).2) hit
   have hbw2:=Lib.below_iterAt hbw (k:=w.heap.size) (Nat.le_refl _) s (pos+(Utf8.decode s pos).2)
   have hst:=Tryd.okFrom_step s pos hp
   by_cases ha:(s[pos]'hp).toNat<128
   ·rw [decode_ascii s pos hp ha] at hnx hit2 hbw2
    simp only at hnx hit2 hbw2
    obtain ⟨n,hn⟩:∃ n,n=(s[pos]'hp).toNat:=⟨_,rfl⟩
    have hb:Tryd.okByte (s[pos]'hp)=(decide (32≤n)&&decide (n≤126)):=by rw [hn];rfl
    rw [←hn] at hnx ha
    by_cases h1:(n:Int)<32
    ·have hno:decide (Tryd.okFrom s 0)=false:=by
      rw [decide_eq_false_iff_not,←hok,hst,hb]
      simp;omega
     go_wp2
     go_ret
     exact ⟨rfl,hbw2⟩
    ·by_cases h2:(n:Int) > 126
     ·have hno:decide (Tryd.okFrom s 0)=false:=by
       rw [decide_eq_false_iff_not,←hok,hst,hb]
       simp;omega
      go_wp2
      go_ret
      exact ⟨rfl,hbw2⟩
     ·go_wp2
      go_roundw
      case rel=>
       refine ⟨pos+1,hit2,hbw2,?_⟩
       rw [←hok,hst,hb]
       have:(decide (32≤n)&&decide (n≤126))=true:=by simp;omega
       simp [this]
      case measure=>rw [Tryd.iterPos_of hit2,hpos0];omega
   ·obtain ⟨d1,d2⟩:=decode_high s pos hp (by omega)
    obtain ⟨n,hn⟩:∃ n,n=(Utf8.decode s pos).1:=⟨_,rfl⟩
    rw [←hn] at hnx d1
    have h1:¬(n:Int)<32:=by omega
    have h2:(n:Int) > 126:=by omega
    have hno:decide (Tryd.okFrom s 0)=false:=by
     rw [decide_eq_false_iff_not,←hok,hst]
     unfold Tryd.okByte
     simp;omega
    go_wp2
    go_ret
    exact ⟨rfl,hbw2⟩
  ·have hnx:∀ ty,(Instr.next (.pointer (some ⟨w.heap.size,0,none⟩)) true ty).run Tryd.prog wr=_:=fun ty=>Lib.run_next_end_at wr w.heap.size s pos ty hit hp
   have hyes:decide (Tryd.okFrom s 0)=true:=by
    rw [decide_eq_true_iff,←hok]
    intro i hi hpi
    omega
   go_wp2
   go_ret
   exact ⟨by rw [hyes];rfl,hbw⟩
end Go.Proofs
