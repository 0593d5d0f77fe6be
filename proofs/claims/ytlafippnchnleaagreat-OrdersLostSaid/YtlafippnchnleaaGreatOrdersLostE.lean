/- Part 5 of the proof of OrdersLost: shallow programs of Go functions, and what they compute. No condition. -/
import Derived.Test.YtlafippnchnleaaGreatOrdersLostD
noncomputable section
namespace Go.Fer
open M (Step)
set_option linter.unusedVariables false
set_option linter.unusedSimpArgs false
section
variable {α:Type}
def G_IndexFunc (d:α) (x:List α×(α→M Bool)):M Int:=
 M.bind (M.loop (fun (σ:List α×(α→M Bool)×Int×Int×Unit)=>if decide (σ.2.2.2.1<σ.2.2.1)=true then M.req (0≤σ.2.2.2.1∧
 σ.2.2.2.1<Int.ofNat (List.length σ.1)) (M.bind (σ.2.1 (List.getD σ.1 (Int.toNat σ.2.2.2.1) d)) fun y=>if y=true then M.bind (M.bind (M.pure
 σ.2.2.2.1) fun r=>M.pure (Step.done r)) fun r=>M.pure (Step.done r) else M.pure (Step.next (σ.1,σ.2.1,σ.2.2.1,IntKind.wrap .i64 (Add.add
 σ.2.2.2.1 1),()))) else M.bind (M.pure (Step.next ())) fun r=>M.pure (Step.done r)) (x.1,x.2,Int.ofNat (List.length x.1),0,())) (Step.go fun (σ
 : Unit)=>M.pure (-1))
def G_ContainsFunc (c:List α×(α→M Bool)→M Int) (x:List α×(α→M Bool)):M Bool:=M.bind (c x) fun y=>M.pure (decide (y≥0))
def G_all (c:List α×(α→M Bool)→M Bool) (c1:α×Option (α→M Bool)→M Bool) (x:List α×(α→M Bool)):M Bool:=
 M.bind (c (x.1,fun x_1=>c1 (x_1,some x.2))) fun y=>M.pure !y
def G_allc1 (x:α×Option (α→M Bool)):M Bool:=M.bind (Option.getD x.2 (fun x=>{ safe:=False,out:=fun x=>False }) x.1) fun y=>M.pure !y
def idxV (p:α→Bool):List α→Int→Int
 | [],_=>-1
 | x::l,i=>if p x=true then i else idxV p l (i+1)
theorem idxV_ge (p:α→Bool):∀ (l:List α) (i:Int),0≤i→(decide (idxV p l i≥0))=l.any p
 | [],i,_=>by simp [idxV]
 | x::l,i,h=>by
  simp only [idxV,List.any_cons]
  by_cases hx:p x=true
  ·simp [hx];omega
  ·have:=idxV_ge p l (i+1) (by omega)
   simpa [hx] using this
theorem foldS_idx (p:α→Bool):∀ (l:List α) (i:Int),foldS (fun x (i:Int)=>if p x=true then (.done (.done i):Step Int (Step Unit Int)) else .next (i+1)) (fun _=>.next ()) l i=if l.any p=true then .done (idxV p l i) else .next ()
 | [],i=>by simp [foldS]
 | x::l,i=>by
  simp only [foldS,List.any_cons,idxV]
  by_cases hx:p x=true
  ·simp [hx]
  ·have:=foldS_idx p l (i+1)
   simpa [hx] using this
theorem idxV_none {p:α→Bool}:∀ (l:List α) (i:Int),¬l.any p=true→idxV p l i=-1
 | [],_,_=>rfl
 | x::l,i,hn=>by
  simp only [List.any_cons,Bool.or_eq_true,not_or] at hn
  simp only [idxV,hn.1,Bool.false_eq_true,if_false]
  exact idxV_none l _ hn.2
theorem gIndexFunc (d:α) (l:List α) (f:α→M Bool) (h:l.length<2 ^ 63) (hf:∀ y∈l,∃ b,f y=M.pure b):G_IndexFunc d (l,f)=M.pure (idxV (fun y=>(f y).val false) l 0):=by
 unfold G_IndexFunc
 rw [M.loop_list l (fun i (b:Int)=>(l,f,(l.length:Int),b,())) (fun y (i:Int)=>if (f y).val false=true then (.done (.done i):Step Int (Step Unit Int)) else .next (i+1)) (fun _=>.next ()) (fun i b=>b=(i:Int)) 0 ?_ ?_ ?_ ?_]
 ·rw [foldS_idx (fun y=>(f y).val false)]
  by_cases ha:(l.any fun y=>(f y).val false)=true
  ·simp [ha]
  ·have:idxV (fun y=>(f y).val false) l 0=-1:=by
    have:∀ (l:List α) (i:Int),¬(l.any fun y=>(f y).val false)=true→idxV (fun y=>(f y).val false) l i=-1:=by
     intro l
     induction l with
     | nil=>intro i _;rfl
     | cons x l ih=>
      intro i hn
      simp only [List.any_cons,Bool.or_eq_true,not_or] at hn
      simp only [idxV,hn.1,Bool.false_eq_true,if_false]
      exact ih _ hn.2
    exact this l 0 ha
   simp [ha,this]
 ·rfl
 ·rfl
 ·intro i hi b hb
  subst hb
  have hw:=wrap64 (n:=(i:Int)+1) (by omega) (by omega)
  refine ⟨?_,fun b' hb'=>?_⟩
  ·obtain ⟨b,hb⟩:=hf _ (List.getElem_mem hi)
   simp only [ofNat_def,lt_len hi,if_true,getD_nat hi,in_len hi,M.req_True,hb,M.val_pure,M.bind_pure,add_def,hw]
   split<;>rfl
  ·split at hb'
   ·cases hb'
   ·cases hb';omega
 ·intro b hb
  subst hb
  simp
end
abbrev fcIndexFunc (e:Ty):FC:=⟨.prod (.slice e) (.fn e .bool),tI,fun x=>x.1.length<2 ^ 63∧∀ y∈x.1,∃ b,x.2 y=M.pure b,fun x=>idxV (fun y=>(x.2 y).val false) x.1 0⟩
theorem sIndexFunc (e:Ty) (x):M.le (G_IndexFunc e.dflt x) ((fcIndexFunc e).sh x):=M.le_det fun h=>gIndexFunc e.dflt x.1 x.2 h.1 h.2
abbrev fcContainsFunc (e:Ty):FC:=⟨.prod (.slice e) (.fn e .bool),tB,fun x=>x.1.length<2 ^ 63∧∀ y∈x.1,∃ b,x.2 y=M.pure b,fun x=>x.1.any fun y=>(x.2 y).val false⟩
theorem sContainsFunc (e:Ty) (x):M.le (G_ContainsFunc (fcIndexFunc e).sh x) ((fcContainsFunc e).sh x):=M.le_det fun h=>by
 unfold G_ContainsFunc
 simp only [FC.sh,fcIndexFunc,M.bind_det]
 rw [M.req_true (by exact h)]
 exact congrArg M.pure (idxV_ge (fun y=>(x.2 y).val false) x.1 0 (by omega))
abbrev fcAllC1 (e:Ty):FC:=⟨.prod e (.ptr (.fn e .bool)),tB,fun x=>∃ f,x.2=some f∧∃ b,f x.1=M.pure b,fun x=>!((x.2.getD fun _=>M.fail) x.1).val false⟩
theorem sAllC1 (e:Ty) (x):M.le (G_allc1 x) ((fcAllC1 e).sh x):=M.le_det fun h=>by
 obtain ⟨y,o⟩:=x
 obtain ⟨f,hf,b,hb⟩:=h
 change o=some f at hf
 subst hf
 change f y=M.pure b at hb
 unfold G_allc1
 simp only [Option.getD_some,hb,M.bind_pure,fcAllC1,M.val_pure]
abbrev fcAllF (e:Ty):FC:=⟨.prod (.slice e) (.fn e .bool),tB,fun x=>x.1.length<2 ^ 63∧∀ y∈x.1,∃ b,x.2 y=M.pure b,fun x=>x.1.all fun y=>(x.2 y).val false⟩
theorem sAllF (e:Ty) (x):M.le (G_all (fcContainsFunc e).sh (fcAllC1 e).sh x) ((fcAllF e).sh x):=M.le_det fun h=>by
 obtain ⟨l,f⟩:=x
 obtain ⟨h1,h2⟩:=h
 unfold G_all
 have hc:∀ y∈l,(fcAllC1 e).sh (y,some f)=M.pure (!(f y).val false):=fun y hy=>by
  obtain ⟨b,hb⟩:=h2 y hy
  exact M.det_true ⟨f,rfl,b,hb⟩ _
 simp only [FC.sh,fcContainsFunc,M.bind_det]
 rw [M.req_true ⟨h1,fun y hy=>⟨_,hc y hy⟩⟩]
 refine congrArg M.pure ?_
 rw [List.not_any_eq_all_not]
 have:∀ m:List e.Den,(m.all fun y=>!((fcAllC1 e).sh (y,some f)).val false)=m.all fun y=>(f y).val false:=by
  intro m
  induction m with
  | nil=>rfl
  | cons y m ih=>
   rw [List.all_cons,List.all_cons,ih]
   congr 1
   exact (congrArg (fun z:Bool=>!z) (M.val_det (p:=(fcAllC1 e).pre (y,some f)))).trans (Bool.not_not _)
 exact this l
end Go.Fer
namespace Go.Fer
open M (Step)
set_option linter.unusedVariables false
set_option linter.unusedSimpArgs false
theorem all_congr' {α:Type} {p q:α→Bool}:∀ {l:List α},(∀ x∈l,p x=q x)→l.all p=l.all q
 | [],_=>rfl
 | x::l,h=>by
  simp only [List.all_cons,h x (by simp),all_congr' fun y hy=>h y (List.mem_cons_of_mem _ hy)]
theorem sPWithin (x):M.le (S_parts_within x) (fcWithin.sh x):=M.le_det fun _=>rfl
theorem sPIsLength (x):M.le (S_parts_isLength fcWithin.sh x) (fcIsLength.sh x):=M.le_det fun _=>eIsLength x
abbrev fcIsMark:FC:=⟨tI,tB,fun _=>True,markV⟩
theorem sPIsMark (x):M.le (S_parts_isMark fcWithin.sh x) (fcIsMark.sh x):=M.le_det fun _=>by
 unfold S_parts_isMark
 simp only [FC.sh,fcWithin,M.bind_det,M.req_True,fcIsMark,markV]
theorem sPIsSpare (x):M.le (S_parts_isSpare fcWithin.sh x) (fcIsSpare.sh x):=M.le_det fun h=>eIsSpare x.1 x.2 h
theorem sPIsSlot (x):M.le (S_parts_isSlot fcWithin.sh x) (fcIsSlotOf.sh x):=M.le_det fun h=>by
 obtain ⟨w,m,k⟩:=x
 change smallW w at h
 have:=eIsSlotOf w m k h
 unfold S_ref07_IsSlotOf at this
 unfold S_parts_isSlot
 simp only [FC.sh,fcIsMake,M.bind_det,M.req_true h,fcWithin,M.req_True,ofNat_def] at this ⊢
 have hl:=h.2.1
 have hw:=wrap64 (n:=(w.2.1.length:Int) - 1) (by omega) (by omega)
 simp only [hw,le_pred]
 exact this
theorem sPAscending (x):M.le (S_parts_ascending x) (fcAscending.sh x):=M.le_det fun h=>eAscending x h
theorem eIndex (l:List Int) (n:Int) (h:l.length<2 ^ 63):S_slices_Index_int_int (l,n)=M.pure (idxV (fun y=>decide (n=y)) l 0):=by
 unfold S_slices_Index_int_int
 rw [M.loop_list l (fun i (b:Int)=>(l,n,(l.length:Int),b,())) (fun y (i:Int)=>if decide (n=y)=true then (.done (.done i):Step Int (Step Unit Int)) else .next (i+1)) (fun _=>.next ()) (fun i b=>b=(i:Int)) 0 ?_ ?_ ?_ ?_]
 ·rw [foldS_idx (fun y=>decide (n=y))]
  by_cases ha:(l.any fun y=>decide (n=y))=true
  ·rw [if_pos ha];simp
  ·rw [if_neg ha,idxV_none l 0 ha];simp
 ·rfl
 ·rfl
 ·intro i hi b hb
  subst hb
  have hw:=wrap64 (n:=(i:Int)+1) (by omega) (by omega)
  refine ⟨?_,fun b' hb'=>?_⟩
  ·simp only [ofNat_def,lt_len hi,if_true,getD_nat hi,in_len hi,M.req_True,M.bind_pure,add_def,hw]
   split<;>rfl
  ·split at hb'
   ·cases hb'
   ·cases hb';omega
 ·intro b hb
  subst hb
  simp
abbrev fcIndex:FC:=⟨.prod tInts tI,tI,fun x=>x.1.length<2 ^ 63,fun x=>idxV (fun y=>decide (x.2=y)) x.1 0⟩
theorem sIndex (x):M.le (S_slices_Index_int_int x) (fcIndex.sh x):=M.le_det fun h=>eIndex x.1 x.2 h
theorem sContains (x):M.le (S_slices_Contains_int_int fcIndex.sh x) (fcIn.sh x):=M.le_det fun h=>by
 unfold S_slices_Contains_int_int
 simp only [FC.sh,fcIndex,M.bind_det]
 rw [M.req_true (by exact h),idxV_ge _ _ _ (by omega)]
 have e:(fun y=>decide (x.2=y))=fun y=>y == x.2:=by funext y;rw [Bool.eq_iff_iff];simp only [decide_eq_true_eq,beq_iff_eq];exact ⟨fun h=>h.symm,fun h=>h.symm⟩
 rw [e,any_contains]
theorem sPIsW1 (x):M.le (S_parts_isWorkshop_c1 fcIsMark.sh fcIsLength.sh x) ((⟨tSpare,tB,fun _=>True,spareV⟩:FC).sh x):=M.le_det fun _=>by
 unfold S_parts_isWorkshop_c1
 simp only [FC.sh,fcIsMark,fcIsLength,M.bind_det,M.gdo_det,M.req_True,implies_true,and_gdo,spareV]
abbrev fcSpareC:FC:=⟨tSpare,tB,fun _=>True,spareV⟩
theorem sPIsW2 (x):M.le (S_parts_isWorkshop_c2 fcAscending.sh (fcAllF tI).sh fcIsMark.sh fcIsLength.sh x) (fcIsSlot.sh x):=M.le_det fun h=>by
 unfold S_parts_isWorkshop_c2
 simp only [FC.sh,fcAscending,fcIsLength,fcAllF,fcIsMark,M.bind_det,M.gdo_det,M.req_True,implies_true,M.val_det]
 rw [M.req_true (by exact fun _=>⟨h,fun y _=>⟨_,M.det_true trivial _⟩⟩),M.req_true (by exact fun _=>h)]
 simp only [and_gdo,ofNat_def]
 refine congrArg M.pure ?_
 show _=slotV x
 unfold slotV
 have e:(x.2.1.all fun y=>markV y)=x.2.1.all markV:=rfl
 rw [e]
 cases x.2.1.all markV<;>cases markV x.1<;>cases decide ((x.2.1.length:Int)≤4)<;>simp
abbrev fcMakeC:FC:=⟨.prod tMake (.ptr (.fn tSlot .bool)),tB,fun x=>∃ f,x.2=some f∧x.1.length<2 ^ 63∧∀ y∈x.1,∃ b,f y=M.pure b,fun x=>decide ((x.1.length:Int)≤4)&&x.1.all fun y=>((x.2.getD fun _=>M.fail) y).val false⟩
theorem sPIsW3 (x):M.le (S_parts_isWorkshop_c3 (fcAllF tSlot).sh x) (fcMakeC.sh x):=M.le_det fun h=>by
 obtain ⟨m,o⟩:=x
 obtain ⟨f,hf,h1,h2⟩:=h
 change o=some f at hf
 subst hf
 unfold S_parts_isWorkshop_c3
 simp only [FC.sh,fcAllF,M.bind_det,M.gdo_det,Option.getD_some]
 rw [M.req_true (by exact fun _=>⟨h1,h2⟩)]
 simp only [and_gdo,ofNat_def,fcMakeC,Option.getD_some]
abbrev fcTrialC:FC:=⟨.prod tTrial (.ptr tW),tB,fun x=>∃ w,x.2=some w∧smallW w,fun x=>trialV (x.2.getD ([],[],0,[])) x.1⟩
theorem sPIsW4 (x):M.le (S_parts_isWorkshop_c4 fcIsSpare.sh fcIsSlotOf.sh fcWithin.sh x) (fcTrialC.sh x):=M.le_det fun h=>by
 obtain ⟨t,o⟩:=x
 obtain ⟨w,hf,h1⟩:=h
 change o=some w at hf
 subst hf
 unfold S_parts_isWorkshop_c4
 simp only [FC.sh,fcIsSpare,fcIsSlotOf,fcWithin,M.bind_det,M.gdo_det,Option.getD_some,M.req_true h1,h1,implies_true,M.req_True,and_gdo,fcTrialC,trialV]
theorem sPIsWorkshop (x):M.le (S_parts_isWorkshop fcWithin.sh (fcAllF tSpare).sh (fcAllF tMake).sh (fcAllF tTrial).sh fcMakeC.sh fcTrialC.sh fcSpareC.sh fcIsSlot.sh x) (fcIsWorkshop.sh x):=M.le_det fun h=>by
 have h0:smallW x:=h
 obtain ⟨h1,h2,h3,h4⟩:=(h:smallW x)
 unfold S_parts_isWorkshop
 have d1:∀ s,fcSpareC.sh s=M.pure (spareV s):=fun _=>rfl
 have d2:∀ m∈x.2.1,fcMakeC.sh (m,some fcIsSlot.sh)=M.pure (makeV m):=fun m hm=>by
  refine (M.det_true ⟨_,rfl,(h4 m hm).1,fun y hy=>⟨_,M.det_true ((h4 m hm).2 y hy) _⟩⟩ _).trans (congrArg M.pure ?_)
  simp only [fcMakeC,Option.getD_some,makeV,FC.sh,M.val_det]
  have:decide ((m.length:Int)≤4)=!decide ((m.length:Int) > 4):=by by_cases hh:(m.length:Int)≤4<;>simp [hh]<;>omega
  rw [this]
 have d3:∀ t,fcTrialC.sh (t,some x)=M.pure (trialV x t):=fun t=>M.det_true ⟨_,rfl,h0⟩ _
 have a1:(x.1.all fun y=>(fcSpareC.sh y).val false)=x.1.all spareV:=all_congr' fun s _=>M.val_det
 have a2:(x.2.1.all fun y=>(fcMakeC.sh (y,some fcIsSlot.sh)).val false)=x.2.1.all makeV:=all_congr' fun m hm=>(congrArg (fun z:M Bool=>z.val false) (d2 m hm)).trans M.val_pure
 have a3:(x.2.2.2.all fun y=>(fcTrialC.sh (y,some x)).val false)=x.2.2.2.all (trialV x):=all_congr' fun t _=>M.val_det
 have e1:∀ y,(fcAllF tSpare).sh y=M.det ((fcAllF tSpare).pre y) ((fcAllF tSpare).g y):=fun _=>rfl
 have e2:∀ y,(fcAllF tMake).sh y=M.det ((fcAllF tMake).pre y) ((fcAllF tMake).g y):=fun _=>rfl
 have e3:∀ y,(fcAllF tTrial).sh y=M.det ((fcAllF tTrial).pre y) ((fcAllF tTrial).g y):=fun _=>rfl
 have e4:∀ y,fcWithin.sh y=M.pure (fcWithin.g y):=fun _=>rfl
 simp only [e1,e2,e3,e4,M.bind_det,M.gdo_det,M.gdo_pure,M.bind_pure]
 rw [M.req_true (by exact fun _=>⟨h1,fun y _=>⟨_,d1 y⟩⟩),M.req_true (by exact fun _=>⟨h2,fun y hy=>⟨_,d2 y hy⟩⟩),M.req_true (by exact fun _=>⟨h3,fun y _=>⟨_,d3 y⟩⟩)]
 simp only [and_gdo,ofNat_def]
 refine congrArg M.pure ?_
 show _=wV x
 rw [a1,a2,a3]
 unfold wV headV
 have c1:decide ((x.1.length:Int)≤10)=!decide ((x.1.length:Int) > 10):=by by_cases hh:(x.1.length:Int)≤10<;>simp [hh]<;>omega
 have c2:decide ((x.2.1.length:Int)≤6)=!decide ((x.2.1.length:Int) > 6):=by by_cases hh:(x.2.1.length:Int)≤6<;>simp [hh]<;>omega
 have c3:decide ((x.2.2.2.length:Int)≤30)=!decide ((x.2.2.2.length:Int) > 30):=by by_cases hh:(x.2.2.2.length:Int)≤30<;>simp [hh]<;>omega
 rw [c1,c2,c3]
 generalize decide ((x.1.length:Int) > 10)=A
 generalize decide ((x.2.1.length:Int) > 6)=B
 generalize decide ((x.2.2.2.length:Int) > 30)=C
 generalize x.1.all spareV=D
 generalize x.2.1.all makeV=E
 generalize x.2.2.2.all (trialV x)=F
 generalize (decide (0≤x.2.2.1)&&decide (x.2.2.1≤99))=G
 revert A B C D E F G
 decide
end Go.Fer
namespace Go.Fer
open M (Step)
set_option linter.unusedVariables false
set_option linter.unusedSimpArgs false
def mlkT (m:List ((Int×Int×Int)×Int)) (k:Int×Int×Int):Option Int:=Option.map (fun x=>x.2) (List.find? (fun p=>decide (k.1=p.1.1)&&(decide (k.2.1=p.1.2.1)&&decide (k.2.2=p.1.2.2))) m)
def mlkI (m:List (Int×Int)) (k:Int):Option Int:=Option.map (fun x=>x.2) (List.find? (fun p=>decide (k=p.1)) m)
theorem eq3 {a b:Int×Int×Int}:(decide (a.1=b.1)&&(decide (a.2.1=b.2.1)&&decide (a.2.2=b.2.2)))=decide (a=b):=by
 rw [Bool.eq_iff_iff]
 simp only [Bool.and_eq_true,decide_eq_true_eq]
 constructor
 ·rintro ⟨h1,h2,h3⟩;exact Prod.ext h1 (Prod.ext h2 h3)
 ·rintro rfl;exact ⟨rfl,rfl,rfl⟩
theorem mlkT_nil (k):mlkT [] k=none:=rfl
theorem mlkT_mset (k:Int×Int×Int) (v:Int) (k':Int×Int×Int):∀ m,mlkT (msetT m k v) k'=if k'=k then some v else mlkT m k'
 | []=>by
  show mlkT [(k,v)] k'=_
  by_cases h:k'=k<;>simp [mlkT,eq3,h]
 | p::m=>by
  have ih:=mlkT_mset k v k' m
  show mlkT (if (decide (k.1=p.1.1)&&(decide (k.2.1=p.1.2.1)&&decide (k.2.2=p.1.2.2)))=true then (p.1,v)::m else p::msetT m k v) k'=_
  rw [eq3]
  by_cases h:k=p.1
  ·subst h
   by_cases h':k'=p.1<;>simp [mlkT,eq3,h']
  ·simp only [h,decide_false,Bool.false_eq_true,if_false]
   simp only [mlkT,eq3,List.find?_cons] at ih ⊢
   by_cases h':k'=p.1
   ·have:¬p.1=k:=fun e=>h e.symm
    simp [h',this]
   ·simp only [h',decide_false]
    exact ih
theorem mlkI_mset (k v k':Int):∀ m,mlkI (msetI m k v) k'=if k'=k then some v else mlkI m k'
 | []=>by
  show mlkI [(k,v)] k'=_
  by_cases h:k'=k<;>simp [mlkI,h]
 | p::m=>by
  have ih:=mlkI_mset k v k' m
  show mlkI (if decide (k=p.1)=true then (p.1,v)::m else p::msetI m k v) k'=_
  by_cases h:k=p.1
  ·subst h
   by_cases h':k'=p.1<;>simp [mlkI,h']
  ·simp only [h,decide_false,Bool.false_eq_true,if_false]
   simp only [mlkI,List.find?_cons] at ih ⊢
   by_cases h':k'=p.1
   ·have:¬p.1=k:=fun e=>h e.symm
    simp [h',this]
   ·simp only [h',decide_false]
    exact ih
def keyOf' (t:Trl):Int×Int×Int:=(t.1,t.2.1,t.2.2.1)
theorem clash_iff {a b:Trl}:clash a b=true↔keyOf' a=keyOf' b∧a.2.2.2≠b.2.2.2:=by
 simp only [clash,Bool.and_eq_true,decide_eq_true_eq,keyOf',Prod.mk.injEq]
 constructor
 ·rintro ⟨⟨⟨a,b⟩,c⟩,d⟩;exact ⟨⟨a,b,c⟩,d⟩
 ·rintro ⟨⟨a,b,c⟩,d⟩;exact ⟨⟨⟨a,b⟩,c⟩,d⟩
theorem tabOk_iff (l:List Trl):tabOk l=true↔l.Pairwise fun a b=>clash a b=false:=by
 unfold tabOk
 rw [List.pairwise_iff_getElem]
 simp only [List.all_eq_true,List.mem_range,Bool.not_eq_true']
 constructor
 ·intro h i j hi hj hij
  have:=h j hj i hij
  simpa [List.getD_eq_getElem?_getD,hi,hj] using this
 ·intro h j hj i hij
  have hi:i<l.length:=by omega
  have:=h i j hi hj hij
  simpa [List.getD_eq_getElem?_getD,hi,hj] using this
def Seen (m:List ((Int×Int×Int)×Int)) (pre:List Trl):Prop:=∀ k v,mlkT m k=some v↔(∃ t∈pre,keyOf' t=k∧t.2.2.2=v)
def badT (m:List ((Int×Int×Int)×Int)) (t:Trl):Bool:=Option.isSome (mlkT m (keyOf' t))&&decide (Option.getD (mlkT m (keyOf' t)) 0≠t.2.2.2)
theorem badT_iff {m pre} (h:Seen m pre) (hp:pre.Pairwise fun a b=>clash a b=false) (t:Trl):badT m t=true↔∃ a∈pre,clash a t=true:=by
 unfold badT
 cases hl:mlkT m (keyOf' t) with
 | none=>
  simp only [Option.isSome_none,Bool.false_and,Bool.false_eq_true,false_iff]
  rintro ⟨a,ha,hc⟩
  have:=(h (keyOf' t) a.2.2.2).2 ⟨a,ha,(clash_iff.1 hc).1,rfl⟩
  rw [hl] at this;cases this
 | some v=>
  simp only [Option.isSome_some,Bool.true_and,Option.getD_some,decide_eq_true_eq]
  obtain ⟨b,hb,hk,hv⟩:=(h _ _).1 hl
  constructor
  ·intro hne
   exact ⟨b,hb,clash_iff.2 ⟨hk,by rw [hv];exact hne⟩⟩
  ·rintro ⟨a,ha,hc⟩ rfl
   obtain ⟨c1,c2⟩:=clash_iff.1 hc
   have:=(h (keyOf' t) a.2.2.2).2 ⟨a,ha,c1,rfl⟩
   rw [hl] at this
   exact c2 (Option.some.inj this).symm
theorem seen_next {m pre} (h:Seen m pre) {t:Trl} (hb:∀ a∈pre,clash a t=false):Seen (msetT m (keyOf' t) t.2.2.2) (pre++[t]):=by
 intro k v
 rw [mlkT_mset]
 by_cases hk:k=keyOf' t
 ·rw [if_pos hk]
  constructor
  ·intro e;exact ⟨t,by simp,hk.symm,Option.some.inj e⟩
  ·rintro ⟨a,ha,h1,h2⟩
   rcases List.mem_append.1 ha with ha | ha
   ·have hc:=hb a ha
    have:¬clash a t=true:=by rw [hc];simp
    rw [clash_iff] at this
    have hne:¬a.2.2.2≠t.2.2.2:=fun e=>this ⟨h1.trans hk,e⟩
    have:a.2.2.2=t.2.2.2:=Decidable.not_not.1 hne
    rw [←h2,this]
   ·simp only [List.mem_singleton] at ha
    rw [←h2,ha]
 ·rw [if_neg hk,h]
  constructor
  ·rintro ⟨a,ha,h1⟩;exact ⟨a,by simp [ha],h1⟩
  ·rintro ⟨a,ha,h1,h2⟩
   rcases List.mem_append.1 ha with ha | ha
   ·exact ⟨a,ha,h1,h2⟩
   ·simp only [List.mem_singleton] at ha
    rw [ha] at h1
    exact absurd h1.symm hk
theorem seen_fold:∀ (rest:List Trl) (m) (pre:List Trl),Seen m pre→(pre.Pairwise fun a b=>clash a b=false)→
  foldS (fun t m=>if badT m t=true then (.done (.done 71):Step _ (Step Unit Int)) else .next (msetT m (keyOf' t) t.2.2.2)) (fun _=>.next ()) rest m=if tabOk (pre++rest)=true then .next () else .done 71
 | [],m,pre,h,hp=>by
  have:=(tabOk_iff pre).2 hp
  simp [foldS,this]
 | t::rest,m,pre,h,hp=>by
  simp only [foldS]
  by_cases hb:badT m t=true
  ·simp only [hb,if_true]
   obtain ⟨a,ha,hc⟩:=(badT_iff h hp t).1 hb
   have:¬tabOk (pre++t::rest)=true:=by
    rw [tabOk_iff,List.pairwise_append]
    rintro ⟨_,_,k⟩
    have:=k a ha t (by simp)
    rw [hc] at this;cases this
   simp [this]
  ·have hn:∀ a∈pre,clash a t=false:=fun a ha=>by
    have:=fun hc=>hb ((badT_iff h hp t).2 ⟨a,ha,hc⟩)
    simpa using this
   simp only [hb,Bool.false_eq_true,if_false]
   have hp':(pre++[t]).Pairwise fun a b=>clash a b=false:=by
    rw [List.pairwise_append]
    exact ⟨hp,by simp,fun a ha b hb=>by simp only [List.mem_singleton] at hb;rw [hb];exact hn a ha⟩
   have:=seen_fold rest _ (pre++[t]) (seen_next h hn) hp'
   rw [this]
   simp
theorem ePCheck (w:Wsh) (h:smallW w):S_parts_Check fcIsWorkshop.sh w=M.pure (checkV w):=by
 have hs:=h
 obtain ⟨h1,h2,h3,h4⟩:=h
 unfold S_parts_Check
 simp only [FC.sh,fcIsWorkshop,M.bind_det,M.req_true hs]
 unfold checkV
 cases hw:wV w with
 | false=>simp
 | true=>
  simp only [Bool.not_true,Bool.false_eq_true,if_false,if_true]
  rw [M.loop_listT w.2.2.2 (fun i (m:List ((Int×Int×Int)×Int))=>(w.2.2.2,(w.2.2.2.length:Int),(i:Int),m,())) (fun t m=>if badT m t=true then (.done (.done 71):Step _ (Step Unit Int)) else .next (msetT m (keyOf' t) t.2.2.2)) (fun _=>.next ()) [] ?_ ?_ ?_]
  ·rw [seen_fold w.2.2.2 [] [] (fun k v=>by simp [mlkT_nil]) (by simp)]
   simp only [List.nil_append]
   by_cases ht:tabOk w.2.2.2=true<;>simp [ht]
  ·rfl
  ·intro i hi m
   have hwr:=wrap64 (n:=(i:Int)+1) (by omega) (by omega)
   simp only [ofNat_def,lt_len hi,if_true,getD_nat hi,in_len hi,M.req_True,M.bind_pure,add_def,hwr]
   exact fin_step2 (mk:=fun m=>(w.2.2.2,(w.2.2.2.length:Int),(i:Int)+1,m,()))
  ·intro m
   simp
theorem sPCheck (x):M.le (S_parts_Check fcIsWorkshop.sh x) (fcCheck.sh x):=M.le_det fun h=>ePCheck x h
theorem ePFits (w:Wsh) (i n m k:Int) (hw:goodW w) (hi:isSpareV w i=true) (hm:isSlotOfV w m k=true):S_parts_fits fcWithin.sh fcIn.sh (w,i,n,m,k)=M.pure (fitsAt w i n m k):=eFitsAt w i n m k hw hi hm
theorem sPFits (x):M.le (S_parts_fits fcWithin.sh fcIn.sh x) (fcFitsAt.sh x):=M.le_det fun h=>ePFits x.1 x.2.1 x.2.2.1 x.2.2.2.1 x.2.2.2.2 h.1 h.2.1 h.2.2
abbrev fcOpenC:FC:=⟨.prod tTrial (.prod (.ptr tI) (.prod (.ptr tW) (.ptr tI))),tB,fun x=>∃ i w n,x.2=(some i,some w,some n)∧goodW w∧isSpareV w i=true∧isSlotOfV w x.1.2.1 x.1.2.2.1=true,
 fun x=>bears (x.2.2.1.getD ([],[],0,[])) (x.2.1.getD 0) (x.2.2.2.getD 0) x.1⟩
theorem sPOpenC (x):M.le (S_parts_open_c1 fcFitsAt.sh x) (fcOpenC.sh x):=M.le_det fun h=>by
 obtain ⟨t,o⟩:=x
 obtain ⟨i,w,n,hf,hw,hi,hm⟩:=h
 change o=_ at hf
 subst hf
 unfold S_parts_open_c1
 simp only [FC.sh,M.safe_det,M.val_det,Option.getD_some,and_true,true_and,and_self,imp_self,M.req_True,ne_eq]
 by_cases ht:t.1=i
 ·have hp:goodW w∧isSpareV w i=true∧isSlotOfV w t.2.1 t.2.2.1=true:=⟨hw,hi,hm⟩
  simp [bears,ht,hp,M.req_true hp]
 ·simp [bears,ht]
def lensAll (w:Wsh):List (List Int):=(List.range w.1.length).map fun (i:Nat)=>lens w (i:Int)
def openV (w:Wsh) (is:Bool):Option Shp×Int:=if knownV w is≠0 then (none,knownV w is) else (some (w,lensAll w),0)
abbrev fcOpen:FC:=⟨.prod tW tB,.prod (.ptr (.st (.prod tW (.slice tInts)))) tI,fun x=>smallW x.1,fun x=>openV x.1 x.2⟩
theorem lens_eq {w:Wsh} {i:Int}:lens w i=(intR (spareAt w i).2.2.1 (spareAt w i).2.2.2).filter fun n=>w.2.2.2.all (bears w i n):=by
 unfold lens
 refine List.filter_congr fun n hn=>?_
 rw [mem_intR] at hn
 simp [canBe,hn]
theorem foldl_first {w:Wsh}:∀ (l:List Nat) (acc:List (List Int)),foldS (fun (i:Nat) (acc:List (List Int))=>if decide (((lens w (i:Int)).length:Int)=0)=true then (.done (.done (none,(3:Int))):Step _ (Step (List Spr×List (List Slt)×Int×List Trl×List (List Int)×Unit) (Option Shp×Int))) else .next (acc++[lens w (i:Int)])) (fun acc=>.next (w.1,w.2.1,w.2.2.1,w.2.2.2,acc,())) l acc
  =if (l.all fun (i:Nat)=>!decide (((lens w (i:Int)).length:Int)=0))=true then .next (w.1,w.2.1,w.2.2.1,w.2.2.2,acc++l.map (fun (i:Nat)=>lens w (i:Int)),()) else .done (none,3)
 | [],acc=>by simp [foldS]
 | i::l,acc=>by
  simp only [foldS,List.all_cons,List.map_cons]
  by_cases h:((lens w (i:Int)).length:Int)=0
  ·simp [h]
  ·simp only [h,decide_false,Bool.false_eq_true,if_false,Bool.not_false,Bool.true_and]
   rw [foldl_first l]
   simp
theorem ePOpen (w:Wsh) (is:Bool) (h:smallW w):S_parts_open fcCheck.sh (fcAllF tTrial).sh fcOpenC.sh (w,is)=M.pure (openV w is):=by
 unfold S_parts_open openV knownV
 simp only [FC.sh,M.bind_det,M.req_true h]
 by_cases hc:checkV w=0
 ·have hw:goodW w:=⟨h,wV_of_check hc⟩
  have hhd:=wV_head hw.2
  simp only [hc,ne_eq,not_true,decide_false,Bool.false_eq_true,if_false]
  cases is with
  | false=>simp
  | true=>
   simp only [Bool.not_true,Bool.false_eq_true,if_false,Bool.true_eq_false]
   rw [M.loop_list (List.range w.1.length) (fun i (acc:List (List Int))=>(w.1,(w.1.length:Int),(i:Int),w,w.1,w.2.1,w.2.2.1,w.2.2.2,acc,())) (fun (i:Nat) (acc:List (List Int))=>if decide (((lens w (i:Int)).length:Int)=0)=true then (.done (.done (none,(3:Int))):Step _ (Step (List Spr×List (List Slt)×Int×List Trl×List (List Int)×Unit) (Option Shp×Int))) else .next (acc++[lens w (i:Int)])) (fun acc=>.next (w.1,w.2.1,w.2.2.1,w.2.2.2,acc,())) (fun i acc=>acc.length≤i) [] ?_ ?_ ?_ ?_]
   ·rw [foldl_first]
    have e:((List.range w.1.length).all fun (i:Nat)=>!decide (((lens w (i:Int)).length:Int)=0))=hasTruth w:=rfl
    rw [e]
    by_cases ht:hasTruth w=true<;>simp [ht,lensAll]
   ·rfl
   ·simp
   ·intro i hi acc hacc
    have hi:i<w.1.length:=by simpa using hi
    have hsp:=isSpareV_nat hi
    have hl:=wV_spare hw.2 hsp
    have hwr:=wrap64 (n:=(i:Int)+1) (by omega) (by omega)
    have hg:w.1[i]=spareAt w (i:Int):=by simp [spareAt,List.getD_eq_getElem?_getD,hi]
    refine ⟨?_,fun b' hb=>?_⟩
    ·simp only [ofNat_def,lt_len hi,if_true,getD_nat hi,in_len hi,M.req_True,hg,List.getElem_range]
     rw [M.loop_list (intR (spareAt w (i:Int)).2.2.1 (spareAt w (i:Int)).2.2.2) (fun k (l:List Int)=>(w.1,(w.1.length:Int),(i:Int),w,(i:Int),spareAt w (i:Int),l,(spareAt w (i:Int)).2.2.1+(k:Int),w.1,w.2.1,w.2.2.1,w.2.2.2,acc,())) (fun n l=>.next (if w.2.2.2.all (bears w (i:Int) n)=true then l++[n] else l)) (fun l=>.next (w.1,(w.1.length:Int),(i:Int),w,l,w.1,w.2.1,w.2.2.1,w.2.2.2,acc,())) (fun k l=>l.length≤k) [] ?_ ?_ ?_ ?_]
     ·rw [foldS_next,foldl_filter_app]
      simp only [M.bind_pure,M.go_next,List.nil_append]
      rw [←lens_eq]
      by_cases hz:((lens w (i:Int)).length:Int)=0
      ·simp [hz]
      ·have hll:lenLe (acc.length+(0+1)):=by unfold lenLe;omega
       simp only [hz,decide_false,Bool.false_eq_true,if_false,add_def,add_defN,M.req_true hll,M.req_True,M.bind_pure,M.go_next,hwr,Step.mapN]
       rfl
     ·simp
     ·simp
     ·intro k hk l hkl
      have hk2:k<1000:=by rw [intR_length] at hk;omega
      have hlo:(spareAt w (i:Int)).2.2.1+(k:Int)≤(spareAt w (i:Int)).2.2.2:=by rw [intR_length] at hk;omega
      have hwr2:=wrap64 (n:=(spareAt w (i:Int)).2.2.1+((k:Int)+1)) (by omega) (by omega)
      have hll:lenLe (l.length+(0+1)):=by unfold lenLe;omega
      refine ⟨?_,fun b' hb=>?_⟩
      ·have hcl:∀ t∈w.2.2.2,fcOpenC.sh (t,some (i:Int),some w,some ((spareAt w (i:Int)).2.2.1+(k:Int)))=M.pure (bears w (i:Int) ((spareAt w (i:Int)).2.2.1+(k:Int)) t):=fun t ht=>M.det_true ⟨_,_,_,rfl,hw,hsp,(wV_trial hw.2 ht).2⟩ _
       simp only [hlo,decide_true,if_true,intR_get]
       rw [M.req_true (by exact ⟨h.2.2.1,fun t ht=>⟨_,hcl t ht⟩⟩)]
       have e:(w.2.2.2.all fun y=>(M.det (fcOpenC.pre (y,some (i:Int),some w,some ((spareAt w (i:Int)).2.2.1+(k:Int)))) (fcOpenC.g (y,some (i:Int),some w,some ((spareAt w (i:Int)).2.2.1+(k:Int))))).val false)=w.2.2.2.all (bears w (i:Int) ((spareAt w (i:Int)).2.2.1+(k:Int))):=all_congr' fun t ht=>M.val_det
       rw [e]
       by_cases hb:w.2.2.2.all (bears w (i:Int) ((spareAt w (i:Int)).2.2.1+(k:Int)))=true
       ·simp only [hb,if_true,add_def,add_defN,M.req_true hll,M.bind_pure,M.go_next,hwr2,Step.mapN,Int.natCast_add,Int.natCast_one,Int.add_assoc]
       ·simp only [hb,Bool.false_eq_true,if_false,add_def,add_defN,M.bind_pure,M.go_next,hwr2,Step.mapN,Int.natCast_add,Int.natCast_one,Int.add_assoc]
      ·cases hb
       split<;>(try simp only [List.length_append,List.length_singleton])<;>omega
     ·intro l hkl
      have:¬(spareAt w (i:Int)).2.2.1+((intR (spareAt w (i:Int)).2.2.1 (spareAt w (i:Int)).2.2.2).length:Int)≤(spareAt w (i:Int)).2.2.2:=by rw [intR_length];omega
      simp only [this,decide_false,Bool.false_eq_true,if_false,M.bind_pure]
    ·split at hb
     ·cases hb
     ·cases hb
      simp only [List.length_append,List.length_singleton]
      omega
   ·intro acc hacc
    simp
 ·simp [hc]
theorem sPOpen (x):M.le (S_parts_open fcCheck.sh (fcAllF tTrial).sh fcOpenC.sh x) (fcOpen.sh x):=M.le_det fun h=>ePOpen x.1 x.2 h
theorem sPKnown (x):M.le (S_parts_known x) (fcIs.sh x):=M.le_det fun _=>by
 unfold S_parts_known
 simp only [isV,decide_eq_true_eq]
 split
 ·rfl
 ·split<;>rfl
theorem lensAll_len (w:Wsh):(lensAll w).length=w.1.length:=by simp [lensAll]
theorem lensAll_get {w:Wsh} {i:Int} (h:isSpareV w i=true):List.getD (lensAll w) i.toNat []=lens w i:=by
 rw [isSpareV_iff] at h
 have:i.toNat<w.1.length:=by omega
 have e:((i.toNat:Nat):Int)=i:=by omega
 simp [lensAll,List.getD_eq_getElem?_getD,this,e]
abbrev tShp:Ty:=.ptr (.st (.prod tW (.slice tInts)))
def isShop (o:Option Shp) (w:Wsh):Prop:=o=some (w,lensAll w)∧goodW w
abbrev fcShopFits:FC:=⟨.prod tShp (.prod tI (.prod tI tI)),tI,fun x=>∃ w,isShop x.1 w∧isSpareV w x.2.1=true∧isSlotOfV w x.2.2.1 x.2.2.2=true,fun x=>fitsV ((x.1.getD (([],[],0,[]),[])).1) x.2.1 x.2.2.1 x.2.2.2⟩
theorem eShopFits (w:Wsh) (i m k:Int) (hw:goodW w) (hi:isSpareV w i=true) (hm:isSlotOfV w m k=true):S_parts_shop_fits fcFitsAt.sh fcIs.sh (some (w,lensAll w),i,m,k)=M.pure (fitsV w i m k):=by
 unfold S_parts_shop_fits
 have hll:=lens_len hw hi
 have r1:0≤i∧i<((lensAll w).length:Int):=by rw [lensAll_len];exact isSpareV_iff.1 hi
 simp only [Option.isSome_some,Option.getD_some,M.req_True,ofNat_def,lensAll_get hi,M.req_true r1]
 rw [M.loop_list (lens w i) (fun j (n:Int)=>(some (w,lensAll w),i,m,k,n,lens w i,((lens w i).length:Int),(j:Int),())) (fun x n=>.next (if fitsAt w i x m k=true then n+1 else n)) (fun n=>.next (some (w,lensAll w),i,n,())) (fun j n=>0≤n∧n≤(j:Int)) 0 ?_ ?_ ?_ ?_]
 ·rw [foldS_next,foldl_count]
  simp only [M.bind_pure,M.go_next,Option.isSome_some,Option.getD_some,M.req_True,M.req_true r1,lensAll_get hi,FC.sh,M.bind_det,Int.zero_add]
  rfl
 ·rfl
 ·simp
 ·intro j hj n hn
  have hwj:=wrap64 (n:=(j:Int)+1) (by omega) (by omega)
  have hwn:=wrap64 (n:=n+1) (by omega) (by omega)
  have hp:goodW w∧isSpareV w i=true∧isSlotOfV w m k=true:=⟨hw,hi,hm⟩
  refine ⟨?_,fun b' hb=>?_⟩
  ·simp only [lt_len hj,if_true,getD_nat hj,in_len hj,M.req_True,Option.isSome_some,Option.getD_some,FC.sh,M.bind_det,M.req_true hp,add_def,hwn]
   cases fitsAt w i (lens w i)[j] m k<;>simp [hwj]
  ·cases hb
   split<;>omega
 ·intro n hn
  simp
theorem sShopFits (x):M.le (S_parts_shop_fits fcFitsAt.sh fcIs.sh x) (fcShopFits.sh x):=M.le_det fun h=>by
 obtain ⟨o,i,m,k⟩:=x
 obtain ⟨w,⟨hf,hw⟩,hi,hm⟩:=h
 change o=_ at hf
 subst hf
 exact eShopFits w i m k hw hi hm
theorem openV_0 {w:Wsh} {is:Bool} (h:knownV w is=0):openV w is=(some (w,lensAll w),0):=by simp [openV,h]
theorem openV_1 {w:Wsh} {is:Bool} (h:knownV w is≠0):openV w is=(none,knownV w is):=by simp [openV,h]
theorem ePLength (w:Wsh) (i:Int) (h:smallW w):S_parts_Length fcOpen.sh fcIsSpare.sh (w,i)=M.pure (lengthV w i):=by
 unfold S_parts_Length lengthV
 simp only [FC.sh,M.safe_det,M.val_det,h,M.req_True]
 by_cases hk:knownV w (isSpareV w i)=0
 ·have hw:=good_of_known h hk
  have hi:=(knownV_0 hk).2.1
  have hp:=lens_pos (knownV_0 hk).2.2 hi
  have hll:=lens_len hw hi
  have hwr:=wrap64 (n:=((lens w i).length:Int) - 1) (by omega) (by omega)
  have e1:(((lens w i).length:Int) - 1).toNat=(lens w i).length - 1:=by omega
  have r0:0≤i∧i<((lensAll w).length:Int):=by rw [lensAll_len];exact isSpareV_iff.1 hi
  have r1:(0:Int)≤0∧(0:Int)<((lens w i).length:Int):=by omega
  have r2:(0:Int)≤((lens w i).length:Int) - 1∧((lens w i).length:Int) - 1<((lens w i).length:Int):=by omega
  simp only [openV_0 hk,hk,ne_eq,not_true,decide_false,Bool.false_eq_true,if_false,Option.isSome_some,Option.getD_some,M.req_True,ofNat_def,lensAll_get hi,M.req_true r0,hwr,e1,M.req_true r2]
  rw [M.req_true (by exact r1)]
  rfl
 ·simp [openV_1 hk,hk]
theorem sPLength (x):M.le (S_parts_Length fcOpen.sh fcIsSpare.sh x) (fcLength.sh x):=M.le_det fun h=>ePLength x.1 x.2 h
theorem ePFitsR (w:Wsh) (i m k:Int) (h:smallW w):S_parts_Fits fcOpen.sh fcIsSpare.sh fcIsSlotOf.sh fcShopFits.sh (w,i,m,k)=M.pure (fitsR w i m k):=by
 unfold S_parts_Fits fitsR
 simp only [FC.sh,M.safe_det,M.val_det,h,M.req_True,and_true,and_self,imp_self,true_and]
 by_cases hk:knownV w (isSpareV w i&&isSlotOfV w m k)=0
 ·have hw:=good_of_known h hk
  have hi:=(knownV_0 hk).2.1
  simp only [Bool.and_eq_true] at hi
  simp only [openV_0 hk,hk,ne_eq,not_true,decide_false,Bool.false_eq_true,if_false,M.bind_det]
  rw [M.req_true (by exact ⟨w,⟨rfl,hw⟩,hi.1,hi.2⟩)]
  rfl
 ·simp [openV_1 hk,hk]
theorem sPFitsR (x):M.le (S_parts_Fits fcOpen.sh fcIsSpare.sh fcIsSlotOf.sh fcShopFits.sh x) (fcFits.sh x):=M.le_det fun h=>ePFitsR x.1 x.2.1 x.2.2.1 x.2.2.2 h
end Go.Fer
namespace Go.Fer
open M (Step)
set_option linter.unusedVariables false
set_option linter.unusedSimpArgs false
theorem wrapU64 {n:Int} (h1:0≤n) (h2:n<18446744073709551616):IntKind.u64.wrap n=n:=by
 show (if (false&&decide (n % 2 ^ 64≥(2 ^ (64 - 1):Int)))=true then n % 2 ^ 64 - 2 ^ 64 else n % 2 ^ 64)=n
 have e1:(2:Int) ^ 64=18446744073709551616:=by decide
 simp only [Bool.false_and,Bool.false_eq_true,if_false,e1]
 omega
theorem nodup_bound:∀ (n:Nat) (l:List Int),l.Nodup→(∀ x∈l,0≤x∧x<(n:Int))→l.length≤n
 | 0,l,_,h=>by
  cases l with
  | nil=>simp
  | cons x l=>have:=h x (by simp);omega
 | n+1,l,hn,h=>by
  have h2:=nodup_bound n (l.erase (n:Int)) (hn.erase _) fun x hx=>by
   have h1:=h x (List.mem_of_mem_erase hx)
   have h3:x≠(n:Int):=fun e=>by rw [hn.mem_erase_iff] at hx;exact hx.1 e
   omega
  rw [List.length_erase] at h2
  split at h2<;>omega
def addN (l:List Int) (c:Int):List Int:=if l.contains c=true then l else l++[c]
theorem addN_nodup {l:List Int} (h:l.Nodup) (c:Int):(addN l c).Nodup:=by
 unfold addN
 split
 ·exact h
 ·rename_i hc
  have hc:c ∉ l:=by simpa using hc
  rw [List.nodup_append]
  exact ⟨h,by simp,fun a ha b hb=>by simp only [List.mem_singleton] at hb;rw [hb];exact fun e=>hc (e ▸ ha)⟩
theorem mem_addN {l:List Int} {c x:Int}:x∈addN l c↔x∈l∨x=c:=by
 unfold addN
 split
 ·rename_i hc
  have hc:c∈l:=by simpa using hc
  exact ⟨.inl,fun h=>h.elim id fun e=>e ▸ hc⟩
 ·simp
end Go.Fer
namespace Go.Fer
open M (Step)
set_option linter.unusedVariables false
set_option linter.unusedSimpArgs false
def small16 (l:List Int):Prop:=∀ x∈l,0≤x∧x<16
def Fine (l:List Int):Prop:=l.Nodup∧small16 l
theorem Fine.len {l:List Int} (h:Fine l):l.length≤16:=nodup_bound 16 l h.1 h.2
theorem Fine.add {l:List Int} (h:Fine l) {c:Int} (hc:0≤c∧c<16):Fine (addN l c):=
 ⟨addN_nodup h.1 c,fun x hx=>by
  rcases mem_addN.1 hx with k | rfl
  ·exact h.2 x k
  ·exact hc⟩
end Go.Fer
namespace Go.Fer
open M (Step)
set_option linter.unusedVariables false
set_option linter.unusedSimpArgs false
theorem M.ret_loop_n {σ ρ:Type} {body:σ→M (Step σ ρ)} {p:ρ→Prop} {s0:σ} (n:Nat) (I:Nat→σ→Prop) (h0:I 0 s0)
  (hs:∀ i,i<n→∀ s,I i s→M.Ret (body s) fun st=>match st with | .next s'=>I (i+1) s' | .done r=>p r)
  (hf:∀ s,I n s→M.Ret (body s) fun st=>match st with | .next _=>False | .done r=>p r):M.Ret (M.loop body s0) p:=by
 have key:∀ k i s,n - i=k→i≤n→I i s→M.Ret (M.loop body s) p:=by
  intro k
  induction k with
  | zero=>
   intro i s hk hi h
   have:i=n:=by omega
   subst this
   rw [M.loop_unfold,M.ret_bind]
   refine (hf s h).mono fun y hy=>?_
   cases y with
   | next s'=>exact hy.elim
   | done r=>exact M.ret_pure.2 hy
  | succ k ih=>
   intro i s hk hi h
   rw [M.loop_unfold,M.ret_bind]
   refine (hs i (by omega) s h).mono fun y hy=>?_
   cases y with
   | next s'=>exact ih (i+1) s' (by omega) (by omega) hy
   | done r=>exact M.ret_pure.2 hy
 exact key n 0 s0 rfl (Nat.zero_le _) h0
theorem M.ret_of_eq {α:Type} {m:M α} {v:α} {p:α→Prop} (h:m=M.pure v) (hp:p v):M.Ret m p:=by rw [h];exact M.ret_pure.2 hp
def keysI (m:List (Int×Int)):List Int:=m.map (·.1)
theorem msetI_cons (p:Int×Int) (m:List (Int×Int)) (k v:Int):msetI (p::m) k v=if decide (k=p.1)=true then (p.1,v)::m else p::msetI m k v:=rfl
theorem keys_mset (k v:Int):∀ (m:List (Int×Int)),((keysI m).Nodup→(keysI (msetI m k v)).Nodup)∧∀ x,x∈keysI (msetI m k v)↔x∈keysI m∨x=k
 | []=>by
  show ((keysI []).Nodup→(keysI [(k,v)]).Nodup)∧∀ x,x∈keysI [(k,v)]↔x∈keysI []∨x=k
  simp [keysI]
 | p::m=>by
  obtain ⟨h1,h2⟩:=keys_mset k v m
  rw [msetI_cons]
  by_cases h:k=p.1
  ·subst h
   simp only [decide_true,if_true]
   refine ⟨fun h=>h,fun x=>?_⟩
   show x∈p.1::keysI m↔x∈p.1::keysI m∨x=p.1
   simp only [List.mem_cons]
   exact ⟨.inl,fun h=>h.elim id .inl⟩
  ·simp only [h,decide_false,Bool.false_eq_true,if_false]
   refine ⟨fun hn=>?_,fun x=>?_⟩
   ·show (p.1::keysI (msetI m k v)).Nodup
    have hn':(p.1::keysI m).Nodup:=hn
    rw [List.nodup_cons] at hn' ⊢
    refine ⟨fun hm=>?_,h1 hn'.2⟩
    rcases (h2 p.1).1 hm with hm | hm
    ·exact hn'.1 hm
    ·exact h hm.symm
   ·show x∈p.1::keysI (msetI m k v)↔x∈p.1::keysI m∨x=k
    simp only [List.mem_cons,h2,or_assoc]
theorem mem_mset {k v:Int}:∀ {m:List (Int×Int)} {q:Int×Int},q∈msetI m k v→q∈m∨q.2=v
 | [],q,h=>by
  have h:q∈[(k,v)]:=h
  simp at h
  rw [h];exact .inr rfl
 | p::m,q,h=>by
  rw [msetI_cons] at h
  split at h
  ·rcases List.mem_cons.1 h with rfl | h
   ·exact .inr rfl
   ·exact .inl (List.mem_cons_of_mem _ h)
  ·rcases List.mem_cons.1 h with rfl | h
   ·exact .inl List.mem_cons_self
   ·exact (mem_mset h).imp (List.mem_cons_of_mem _) id
theorem mlk_bound {m:List (Int×Int)} {k T:Int} (h:∀ p∈m,1≤p.2∧p.2≤T) (hT:0≤T):0≤(mlkI m k).getD 0∧(mlkI m k).getD 0≤T:=by
 unfold mlkI
 cases hf:m.find? fun p=>decide (k=p.1) with
 | none=>simpa using hT
 | some p=>
  have:=h p (List.mem_of_find?_eq_some hf)
  simp
  omega
def OkM (m:List (Int×Int)) (T:Int) (q:Int→Prop):Prop:=(keysI m).Nodup∧(∀ x,x∈keysI m↔q x)∧∀ p∈m,1≤p.2∧p.2≤T
theorem OkM.add {m:List (Int×Int)} {T:Int} {q q':Int→Prop} (h:OkM m T q) {k:Int} (hT:0≤T) (hq:∀ x,q' x↔q x∨x=k):OkM (msetI m k ((mlkI m k).getD 0+1)) (T+1) q':=by
 obtain ⟨h1,h2,h3⟩:=h
 obtain ⟨k1,k2⟩:=keys_mset k ((mlkI m k).getD 0+1) m
 refine ⟨k1 h1,fun x=>by rw [k2,h2,hq],fun p hp=>?_⟩
 have hb:=mlk_bound (k:=k) h3 hT
 rcases mem_mset hp with hp | hp
 ·have:=h3 p hp;omega
 ·omega
end Go.Fer
namespace Go.Fer
open M (Step)
set_option linter.unusedVariables false
set_option linter.unusedSimpArgs false
def mulHi (x:Int×Int):Int:=IntKind.wrap .u64
 (Add.add (IntKind.wrap .u64 (Add.add (IntKind.wrap .u64 (ishr .u64 x.1 32*ishr .u64 x.2 32)) (ishr .u64 (IntKind.wrap .u64 (Add.add (IntKind.wrap
 .u64 (ishr .u64 x.1 32*iand .u64 x.2 4294967295)) (ishr .u64 (IntKind.wrap .u64 (iand .u64 x.1 4294967295*iand .u64 x.2 4294967295)) 32))) 32)))
 (ishr .u64 (IntKind.wrap .u64 (Add.add (iand .u64 (IntKind.wrap .u64 (Add.add (IntKind.wrap .u64 (ishr .u64 x.1 32*iand .u64 x.2 4294967295)) (ishr
 .u64 (IntKind.wrap .u64 (iand .u64 x.1 4294967295*iand .u64 x.2 4294967295)) 32))) 4294967295) (IntKind.wrap .u64 (iand .u64 x.1 4294967295*ishr
 .u64 x.2 32)))) 32))
def mulChk:Nat→Bool
 | 0=>true
 | n+1=>decide (mulHi (1,(n:Int))=0)&&mulChk n
theorem mul_eq:∀ (N n:Nat),mulChk N=true→n<N→mulHi (1,(n:Int))=0
 | 0,n,_,h=>by omega
 | N+1,n,hc,h=>by
  simp only [mulChk,Bool.and_eq_true,decide_eq_true_eq] at hc
  by_cases e:n=N
  ·rw [e];exact hc.1
  ·exact mul_eq N n hc.2 (by omega)
def holdV (work:List Int) (s:Int):List Int:=((List.range work.length).filter fun j=>decide (work.getD j 0=s)).map fun (j:Nat)=>(j:Int)
theorem mem_holdV {work:List Int} {s j:Int}:j∈holdV work s↔0≤j∧j<(work.length:Int)∧work.getD j.toNat 0=s:=by
 simp only [holdV,List.mem_map,List.mem_filter,List.mem_range,decide_eq_true_eq]
 constructor
 ·rintro ⟨i,⟨h1,h2⟩,rfl⟩;exact ⟨by omega,by omega,by simpa using h2⟩
 ·rintro ⟨h1,h2,h3⟩;exact ⟨j.toNat,⟨by omega,h3⟩,by omega⟩
end Go.Fer
namespace Go.Fer
open M (Step)
set_option linter.unusedVariables false
set_option linter.unusedSimpArgs false
theorem foldS_inv {α β ρ:Type} {f:α→β→Step β ρ} {fin:β→ρ} (I:Nat→β→Prop) (Q:ρ→Prop) (l:List α) (b:β) (h0:I 0 b)
  (hs:∀ i (h:i<l.length) b,I i b→match f l[i] b with | .next b'=>I (i+1) b' | .done r=>Q r) (hf:∀ b,I l.length b→Q (fin b)):Q (foldS f fin l b):=by
 have key:∀ (k:Nat) (r:List α) (b:β),k≤l.length→r=l.drop k→I k b→Q (foldS f fin r b):=by
  intro k r
  induction r generalizing k with
  | nil=>
   intro b hk hr hI
   have:k=l.length:=by have:=congrArg List.length hr;simp at this;omega
   subst this
   exact hf b hI
  | cons x r ih=>
   intro b hk hr hI
   have hlt:k<l.length:=by
    rcases Nat.lt_or_ge k l.length with h | h
    ·exact h
    ·rw [List.drop_eq_nil_of_le h] at hr;cases hr
   rw [List.drop_eq_getElem_cons hlt] at hr
   injection hr with hx hr
   have h1:=hs k hlt b hI
   rw [←hx] at h1
   simp only [foldS]
   cases hf':f x b with
   | next b'=>rw [hf'] at h1;exact ih (k+1) b' hlt hr h1
   | done r'=>rw [hf'] at h1;exact h1
 exact key 0 l b (Nat.zero_le _) rfl h0
def mval (m:List (Int×Int)) (k:Int):Int:=(mlkI m k).getD 0
theorem mval_def (m:List (Int×Int)) (k:Int):Option.getD (Option.map (fun x=>x.2) (List.find? (fun p=>decide (k=p.1)) m)) 0=mval m k:=rfl
theorem mval_mset (k v k':Int) (m:List (Int×Int)):mval (msetI m k v) k'=if k'=k then v else mval m k':=by
 unfold mval
 rw [mlkI_mset]
 split<;>rfl
def unas (n:Nat) (m:List (Int×Int)):Nat:=(List.range n).countP fun (s:Nat)=>decide (mval m (s:Int)=0)
theorem countP_one {p q:Nat→Bool} {s:Nat} (h:∀ x,x≠s→p x=q x) (hp:p s=true) (hq:q s=false):∀ (l:List Nat),l.Nodup→s∈l→l.countP p=l.countP q+1
 | [],_,hs=>by cases hs
 | x::l,hn,hs=>by
  rw [List.nodup_cons] at hn
  rw [List.countP_cons,List.countP_cons]
  by_cases e:x=s
  ·subst e
   have:l.countP p=l.countP q:=List.countP_congr fun y hy=>by
    have:y≠x:=fun e=>hn.1 (e ▸ hy)
    rw [h y this]
   rw [this,hp,hq];simp
  ·have:=countP_one h hp hq l hn.2 (by rcases List.mem_cons.1 hs with h | h;exact absurd h.symm e;exact h)
   rw [this,h x e]
   omega
theorem unas_mark {n:Nat} {m:List (Int×Int)} {s v:Int} (h0:0≤s) (hn:s<(n:Int)) (hm:mval m s=0) (hv:v≠0):unas n m=unas n (msetI m s v)+1:=by
 unfold unas
 refine countP_one (s:=s.toNat) (fun x hx=>?_) ?_ ?_ _ List.nodup_range (by simp;omega)
 ·rw [mval_mset,if_neg (by omega)]
 ·rw [Int.toNat_of_nonneg h0];simp [hm]
 ·rw [mval_mset,if_pos (by omega)];simp [hv]
theorem unas_mono {n:Nat} {a b:List (Int×Int)} (h:∀ k,0≤mval a k∧mval a k≤mval b k):unas n b≤unas n a:=by
 unfold unas
 refine List.countP_mono_left fun x _ hx=>?_
 have:=h (x:Int)
 simp only [decide_eq_true_eq] at hx ⊢
 omega
abbrev GSt:=List Int×List (Int×Int)
end Go.Fer
namespace Go.Fer
open M (Step)
set_option linter.unusedVariables false
set_option linter.unusedSimpArgs false
def Step.mapD {β ρ ρ':Type} (g:ρ→ρ'):Step β ρ→Step β ρ'
 | .next b=>.next b
 | .done r=>.done (g r)
def foldP {α β ρ:Type} (f:α→β→Step β ρ):List α→β→Step β ρ
 | [],b=>.next b
 | x::l,b=>match f x b with
  | .next b'=>foldP f l b'
  | .done r=>.done r
def Step.fin {β ρ:Type} (n:β→ρ):Step β ρ→ρ
 | .next b=>n b
 | .done r=>r
theorem foldS_P {α β ρ:Type} {f:α→β→Step β ρ} {n:β→ρ}:∀ (l:List α) (b:β),foldS f n l b=Step.fin n (foldP f l b)
 | [],b=>rfl
 | x::l,b=>by
  simp only [foldS,foldP]
  cases f x b with
  | next b'=>exact foldS_P l b'
  | done r=>rfl
theorem foldP_mapD {α β ρ ρ':Type} {f:α→β→Step β ρ} {g:ρ→ρ'}:∀ (l:List α) (b:β),foldP (fun x b=>Step.mapD g (f x b)) l b=Step.mapD g (foldP f l b)
 | [],b=>rfl
 | x::l,b=>by
  simp only [foldP]
  cases f x b with
  | next b'=>exact foldP_mapD l b'
  | done r=>rfl
end Go.Fer
namespace Go.Fer
open M (Step)
set_option linter.unusedVariables false
set_option linter.unusedSimpArgs false
theorem getD_ext {a b:List Int} (h:a.length=b.length):((List.range a.length).all fun i=>decide (a.getD i 0=b.getD i 0))=decide (a=b):=by
 rw [Bool.eq_iff_iff]
 simp only [List.all_eq_true,List.mem_range,decide_eq_true_eq]
 constructor
 ·intro hh
  refine List.ext_getElem h fun i h1 h2=>?_
  have:=hh i h1
  rwa [List.getD_eq_getElem?_getD,List.getD_eq_getElem?_getD,List.getElem?_eq_getElem h1,List.getElem?_eq_getElem h2] at this
 ·rintro rfl i _
  rfl
abbrev fcSameInts:FC:=⟨.prod tInts tInts,tB,fun x=>x.1.length<2 ^ 63∧x.2.length<2 ^ 63,fun x=>decide (x.1=x.2)⟩
theorem eSameInts (a b:List Int) (h1:a.length<2 ^ 63):S_law07_sameInts (a,b)=M.pure (decide (a=b)):=by
 unfold S_law07_sameInts
 by_cases hl:a.length=b.length
 ·have e:decide (Int.ofNat a.length≠Int.ofNat b.length)=false:=by simp [hl]
  simp only [e,Bool.false_eq_true,if_false]
  rw [M.loop_listT (List.range a.length) (fun i (_:Unit)=>(a,b,(i:Int),())) (fun (i:Nat) u=>if decide (a.getD i 0≠b.getD i 0)=true then .done (.done false) else .next u) (fun _=>.next ()) () ?_ ?_ ?_]
  ·rw [foldS_anyN (q:=fun (i:Nat)=>decide (a.getD i 0=b.getD i 0)) _ _ (fun i=>by simp),getD_ext hl]
   by_cases h:a=b
   ·simp only [h,decide_true,if_true,M.bind_pure,M.go_next]
   ·simp only [h,decide_false,Bool.false_eq_true,if_false,M.bind_pure,M.go_done]
  ·rfl
  ·intro i hi u
   have hi:i<a.length:=by simpa using hi
   have hi2:i<b.length:=by omega
   have hwi:=wrap64 (n:=(i:Int)+1) (by omega) (by omega)
   simp only [ofNat_def,lt_len hi,if_true,in_len hi,in_len hi2,M.req_True,List.getElem_range,Int.toNat_natCast,M.bind_pure,add_def,hwi]
   exact fin_step (mk:=fun _:Unit=>(a,b,(i:Int)+1,()))
  ·intro u
   simp
 ·have e:decide (Int.ofNat a.length≠Int.ofNat b.length)=true:=by simp;omega
  have hn:¬a=b:=fun e=>hl (e ▸ rfl)
  simp only [e,if_true,hn,decide_false]
theorem sSameInts (x):M.le (S_law07_sameInts x) (fcSameInts.sh x):=M.le_det fun h=>eSameInts x.1 x.2 h.1
def copyW (w:Wsh):Prop:=w.1.length≤1000∧w.2.1.length≤1000∧w.2.2.2.length≤1000∧∀ m∈w.2.1,m.length≤1000∧∀ s∈m,s.2.1.length≤1000
theorem copyW.small {w:Wsh} (h:copyW w):smallW w:=⟨by have:=h.1;omega,by have:=h.2.1;omega,by have:=h.2.2.1;omega,fun m hm=>⟨by have:=(h.2.2.2 m hm).1;omega,fun s hs=>by have:=(h.2.2.2 m hm).2 s hs;omega⟩⟩
abbrev fcCopy:FC:=⟨tW,tW,copyW,fun w=>w⟩
theorem eCopy (w:Wsh) (h:copyW w):S_ref07_Copy w=M.pure w:=by
 obtain ⟨h1,h2,h3,h4⟩:=h
 unfold S_ref07_Copy
 have r1:lenLe (0+w.1.length):=by unfold lenLe;omega
 have r2:lenLe (0+w.2.2.2.length):=by unfold lenLe;omega
 simp only [add_defN,M.req_true r1,M.req_true r2,List.nil_append]
 rw [M.loop_list w.2.1 (fun i (out:List (List (Int×List Int×Int×Int)))=>((i:Int),w,0,w.2.2.1,w.1,w.2.2.2,out,())) (fun m out=>.next (out++[m])) (fun out=>.next (0,w.2.2.1,w.1,w.2.2.2,out,())) (fun i out=>out.length≤i) [] ?_ ?_ ?_ ?_]
 ·rw [foldS_next,foldl_map_app (g:=fun m=>m)]
  simp only [M.bind_pure,M.go_next,List.nil_append,List.map_id_fun',id_eq]
 ·rfl
 ·simp
 ·intro i hi out hout
  have hm:=h4 w.2.1[i] (List.getElem_mem hi)
  have hwi:=wrap64 (n:=(i:Int)+1) (by omega) (by omega)
  have r3:lenLe (0+w.2.1[i].length):=by have:=hm.1;unfold lenLe;omega
  have r4:lenLe (out.length+(0+1)):=by unfold lenLe;omega
  refine ⟨?_,fun b' hb'=>?_⟩
  ·simp only [ofNat_def,lt_len hi,if_true,in_len hi,M.req_True,getD_nat hi,M.req_true r3]
   rw [M.loop_listT w.2.1[i] (fun k (_:Unit)=>((i:Int),(k:Int),w,0,w.2.2.1,w.1,w.2.2.2,w.2.1[i],out,())) (fun s u=>.next u) (fun _=>.next ((i:Int),w,0,w.2.2.1,w.1,w.2.2.2,w.2.1[i],out,())) () ?_ ?_ ?_]
   ·rw [foldS_next]
    simp only [M.bind_pure,M.go_next,M.req_true r4,add_def,hwi]
    rfl
   ·rfl
   ·intro k hk u
    have hs:=hm.2 _ (List.getElem_mem hk)
    have hkl:=hm.1
    have hwk:=wrap64 (n:=(k:Int)+1) (by omega) (by omega)
    have r5:lenLe (0+(w.2.1[i])[k].2.1.length):=by unfold lenLe;omega
    have hset:(w.2.1[i]).set k ((w.2.1[i])[k].1,(w.2.1[i])[k].2.1,(w.2.1[i])[k].2.2)=w.2.1[i]:=List.set_getElem_self hk
    simp only [lt_len hk,if_true,in_len hk,M.req_True,getD_nat hk,M.req_true r5,add_def,hwk]
    rw [Int.toNat_natCast,hset]
    rfl
   ·intro u
    simp
  ·cases hb'
   simp only [List.length_append,List.length_singleton]
   omega
 ·intro out hout
  simp
theorem sCopy (x):M.le (S_ref07_Copy x) (fcCopy.sh x):=M.le_det fun h=>eCopy x h
end Go.Fer
namespace Go.Fer
open M (Step)
set_option linter.unusedVariables false
set_option linter.unusedSimpArgs false
def farM (m:List (Int×List Int×Int×Int)):Bool:=decide ((m.length:Int) > 20)||m.any fun s=>decide ((s.2.1.length:Int) > 20)
def farV (w:Wsh):Bool:=
 if (decide ((w.1.length:Int) > 40)||decide ((w.2.1.length:Int) > 40)||decide ((w.2.2.2.length:Int) > 60))=true then true
 else if w.2.1.any farM=true then true
 else if checkV w≠0 then false
 else if (w.1.any fun s=>decide (IntKind.i64.wrap (s.2.2.2 - s.2.2.1)≥50))=true then true
 else decide ((w.1.length:Int) > 6)||decide ((w.2.1.length:Int) > 4)||decide ((w.2.2.2.length:Int) > 10)
theorem far_copy {w:Wsh} (h:farV w=false):copyW w:=by
 unfold farV at h
 split at h
 ·cases h
 ·rename_i h1
  split at h
  ·cases h
  ·rename_i h2
   simp only [Bool.or_eq_true,decide_eq_true_eq,not_or] at h1
   refine ⟨by omega,by omega,by omega,fun m hm=>?_⟩
   have hf:farM m=false:=by
    rw [Bool.not_eq_true,List.any_eq_false] at h2
    simpa using h2 m hm
   unfold farM at hf
   rw [Bool.or_eq_false_iff] at hf
   have h3:=hf.1
   rw [decide_eq_false_iff_not] at h3
   refine ⟨by omega,fun s hs=>?_⟩
   have h4:=List.any_eq_false.1 hf.2 s hs
   rw [decide_eq_true_eq] at h4
   omega
abbrev fcFar:FC:=⟨tW,tB,smallW,farV⟩
theorem eFar (w:Wsh) (h:smallW w):S_law07_Far fcCheck.sh w=M.pure (farV w):=by
 unfold S_law07_Far farV
 simp only [ofNat_def]
 by_cases h1:(decide ((w.1.length:Int) > 40)||decide ((w.2.1.length:Int) > 40)||decide ((w.2.2.2.length:Int) > 60))=true
 ·rw [if_pos h1,if_pos h1]
 ·rw [if_neg h1,if_neg h1]
  have hl:=h
  obtain ⟨q1,q2,q3,q4⟩:=h
  rw [M.loop_listT w.2.1 (fun i (_:Unit)=>((i:Int),w,())) (fun m u=>if farM m=true then .done (.done true) else .next u) (fun _=>.next (w,())) () ?_ ?_ ?_]
  ·rw [foldS_any]
   by_cases h2:w.2.1.any farM=true
   ·simp only [h2,if_true,M.bind_pure,M.go_done]
   ·simp only [h2,Bool.false_eq_true,if_false,M.bind_pure,M.go_next,FC.sh,M.bind_det,M.req_true hl]
    by_cases h3:checkV w=0
    ·simp only [h3,ne_eq,not_true,decide_false,Bool.false_eq_true,if_false]
     rw [M.loop_listT w.1 (fun i (_:Unit)=>((i:Int),w,())) (fun s u=>if decide (IntKind.i64.wrap (s.2.2.2 - s.2.2.1)≥50)=true then .done (.done true) else .next u) (fun _=>.next (w,())) () ?_ ?_ ?_]
     ·rw [foldS_any]
      by_cases h4:(w.1.any fun s=>decide (IntKind.i64.wrap (s.2.2.2 - s.2.2.1)≥50))=true
      ·simp only [h4,if_true,M.bind_pure,M.go_done]
      ·simp only [h4,Bool.false_eq_true,if_false,M.bind_pure,M.go_next]
     ·rfl
     ·intro i hi u
      have hwi:=wrap64 (n:=(i:Int)+1) (by omega) (by omega)
      simp only [ofNat_def,lt_len hi,if_true,in_len hi,M.req_True,getD_nat hi,M.bind_pure,add_def,hwi]
      exact fin_step (mk:=fun _:Unit=>((i:Int)+1,w,()))
     ·intro u
      simp
    ·simp only [h3,ne_eq,not_false_iff,decide_true,if_true]
  ·rfl
  ·intro i hi u
   have hwi:=wrap64 (n:=(i:Int)+1) (by omega) (by omega)
   have hm:=q4 _ (List.getElem_mem hi)
   simp only [ofNat_def,lt_len hi,if_true,in_len hi,M.req_True,getD_nat hi,M.bind_pure]
   by_cases h5:decide ((w.2.1[i].length:Int) > 20)=true
   ·have hf:farM w.2.1[i]=true:=by unfold farM;rw [h5];rfl
    simp only [h5,if_true,M.bind_pure,M.go_done,hf]
    rfl
   ·have hf:farM w.2.1[i]=w.2.1[i].any fun s=>decide ((s.2.1.length:Int) > 20):=by unfold farM;rw [Bool.not_eq_true] at h5;rw [h5];rfl
    rw [if_neg h5]
    rw [M.loop_listT w.2.1[i] (fun k (_:Unit)=>((i:Int),(k:Int),w,())) (fun s u=>if decide ((s.2.1.length:Int) > 20)=true then .done (.done (.done (.done true))) else .next u) (fun _=>.next ((i:Int),w,())) () ?_ ?_ ?_]
    ·rw [foldS_any,hf]
     by_cases h6:(w.2.1[i].any fun s=>decide ((s.2.1.length:Int) > 20))=true
     ·simp only [h6,if_true,M.bind_pure,M.go_done];rfl
     ·simp only [h6,Bool.false_eq_true,if_false,M.bind_pure,M.go_next,add_def,hwi];rfl
    ·rfl
    ·intro k hk u
     have hwk:=wrap64 (n:=(k:Int)+1) (by omega) (by omega)
     simp only [in_len hi,M.req_True,getD_nat hi,lt_len hk,if_true,in_len hk,getD_nat hk,M.bind_pure,add_def,hwk]
     exact fin_step (mk:=fun _:Unit=>((i:Int),(k:Int)+1,w,()))
    ·intro u
     simp only [in_len hi,M.req_True,getD_nat hi,Int.lt_irrefl,decide_false,Bool.false_eq_true,if_false,M.bind_pure]
  ·intro u
   simp
theorem sFar (x):M.le (S_law07_Far fcCheck.sh x) (fcFar.sh x):=M.le_det fun h=>eFar x h
def exW:Wsh:=([(1,2,300,310),(1,3,305,305),(2,1,50,60),(1,2,320,330)],[[(1,[2,3],300,306),(2,[1],40,58)],[(1,[2],310,326)]],5,[(0,1,0,0)])
abbrev fcExample:FC:=⟨.unit,tW,fun _=>True,fun _=>exW⟩
theorem sExample (x):M.le (S_law07_Example x) (fcExample.sh x):=M.le_det fun _=>rfl
theorem exW_small:smallW exW:=by
 refine ⟨by decide,by decide,by decide,?_⟩
 intro m hm
 simp only [exW,List.mem_cons,List.not_mem_nil,or_false] at hm
 rcases hm with rfl | rfl
 ·refine ⟨by decide,fun s hs=>?_⟩
  simp only [List.mem_cons,List.not_mem_nil,or_false] at hs
  rcases hs with rfl | rfl<;>decide
 ·refine ⟨by decide,fun s hs=>?_⟩
  simp only [List.mem_cons,List.not_mem_nil,or_false] at hs
  rcases hs with rfl;decide
end Go.Fer
namespace Go.Fer
open M (Step)
set_option linter.unusedVariables false
set_option linter.unusedSimpArgs false
abbrev tPc:Ty:=.st (.prod tI (.prod tI (.prod tI (.prod tI tInts))))
abbrev tWi:Ty:=.st (.prod tInts (.prod tSpan (.prod tI (.prod tI tI))))
abbrev tDe:Ty:=.st (.prod tI (.prod tI tI))
abbrev tS:Ty:=.st (.prod tW (.prod tInts (.prod (.slice tPc) (.prod (.slice tWi) (.prod (.slice tDe) tI)))))
def smallS (s:Shop):Prop:=smallW s.1∧s.2.1.length<2 ^ 63∧s.2.2.1.length<2 ^ 63∧s.2.2.2.1.length<2 ^ 63∧s.2.2.2.2.1.length<2 ^ 63∧(∀ p∈s.2.2.1,p.2.2.2.2.length<2 ^ 63)∧∀ x∈s.2.2.2.1,x.1.length<2 ^ 63
def inR (n lo hi:Int):Bool:=decide (lo≤n)&&decide (n≤hi)
def hundV (n:Int):Bool:=inR n 0 99
def risV (p:Int→Bool) (l:List Int):Bool:=(List.range l.length).all fun i=>p (l.getD i 0)&&!(decide (0<i)&&decide (l.getD i 0≤l.getD (i - 1) 0))
def brokV (w:Wsh) (m:Int) (n:Int):Bool:=decide (0≤n)&&decide (n<((slotsOfV w m).length:Int))
def pieceV (w:Wsh) (p:Pc):Bool:=hundV p.1&&hundV p.2.1&&hundV p.2.2.1&&isMakeV w p.2.2.2.1&&risV (brokV w p.2.2.2.1) p.2.2.2.2
def wishV (x:Wi):Bool:=inR (x.1.length:Int) 1 8&&risV hundV x.1&&hundV x.2.1.1&&hundV x.2.1.2&&decide (x.2.1.1≤x.2.1.2)&&hundV x.2.2.1&&hundV x.2.2.2.1&&inR x.2.2.2.2 0 100000
def delivV (w:Wsh) (d:De):Bool:=hundV d.1&&isSpareV w d.2.1&&inR d.2.2 1 10
def shopV (s:Shop):Bool:=decide ((s.2.1.length:Int)=(s.1.1.length:Int))&&(s.2.1.all fun n=>inR n 0 10)&&decide ((s.2.2.1.length:Int)≤8)&&s.2.2.1.all (pieceV s.1)&&decide ((s.2.2.2.1.length:Int)≤6)&&s.2.2.2.1.all wishV&&decide ((s.2.2.2.2.1.length:Int)≤8)&&s.2.2.2.2.1.all (delivV s.1)&&hundV s.2.2.2.2.2
def errS (s:Shop):Int:=if checkV s.1≠0 then checkV s.1 else if shopV s=true then 0 else 80
theorem sOWithin (x):M.le (S_orders_within x) (fcWithin.sh x):=M.le_det fun _=>rfl
theorem sRWithin8 (x):M.le (S_ref08_within x) (fcWithin.sh x):=M.le_det fun _=>rfl
abbrev fcHund:FC:=⟨tI,tB,fun _=>True,hundV⟩
theorem sOMark (x):M.le (S_orders_isMark fcWithin.sh x) (fcHund.sh x):=M.le_det fun _=>by
 unfold S_orders_isMark
 simp [FC.sh,fcWithin,hundV,inR]
theorem sODue (x):M.le (S_orders_isDue fcWithin.sh x) (fcHund.sh x):=M.le_det fun _=>by
 unfold S_orders_isDue
 simp [FC.sh,fcWithin,hundV,inR]
abbrev fcRising:FC:=⟨.prod tInts (.fn tI .bool),tB,fun x=>x.1.length<2 ^ 63∧∀ y∈x.1,∃ b,x.2 y=M.pure b,fun x=>risV (fun y=>(x.2 y).val false) x.1⟩
theorem sORising (x):M.le (S_orders_rising x) (fcRising.sh x):=M.le_det fun h=>by
 obtain ⟨l,f⟩:=x
 obtain ⟨h1,h2⟩:=h
 change l.length<2 ^ 63 at h1
 change ∀ y∈l,∃ b,f y=M.pure b at h2
 unfold S_orders_rising
 rw [M.loop_listT (List.range l.length) (fun i (_:Unit)=>(l,f,l,(l.length:Int),(i:Int),())) (fun i b=>if (!((f (l.getD i 0)).val false&&!(decide (0<i)&&decide (l.getD i 0≤l.getD (i - 1) 0))))=true then .done (.done false) else .next b) (fun _=>.next ()) () ?_ ?_ ?_]
 ·rw [foldS_anyN (q:=fun i=>(f (l.getD i 0)).val false&&!(decide (0<i)&&decide (l.getD i 0≤l.getD (i - 1) 0))) _ _ (fun _=>rfl)]
  show _=M.pure (risV (fun y=>(f y).val false) l)
  unfold risV
  cases (List.range l.length).all fun i=>(f (l.getD i 0)).val false&&!(decide (0<i)&&decide (l.getD i 0≤l.getD (i - 1) 0))<;>simp
 ·rfl
 ·intro i hi b
  have hi:i<l.length:=by simpa using hi
  have hw:=wrap64 (n:=(i:Int)+1) (by omega) (by omega)
  have hw2:=wrap64 (n:=(i:Int) - 1) (by omega) (by omega)
  have e2:((i:Int) - 1).toNat=i - 1:=by omega
  obtain ⟨c,hc⟩:=h2 _ (List.getElem_mem hi)
  have eg:l.getD i 0=l[i]:=by simp [List.getD_eq_getElem?_getD,hi]
  have ep:(decide ((i:Int) > 0))=decide (0<i):=by rw [decide_eq_decide];omega
  simp only [ofNat_def,lt_len hi,if_true,List.getElem_range,getD_nat hi,in_len hi,M.req_True,eg,hc,M.val_pure,M.bind_pure,add_def,hw,hw2,e2,ep]
  rw [M.req_true (by intro hh;simp at hh;exact ⟨⟨by simp;omega,by simp;omega⟩,⟨by omega,by omega⟩,trivial⟩)]
  cases c<;>cases (decide (0<i)&&decide (l[i]≤l.getD (i - 1) 0))<;>rfl
 ·intro b
  simp
abbrev fcRising8:FC:=⟨.prod tInts tI,tB,fun x=>x.1.length<2 ^ 63,fun x=>risV (fun n=>inR n 0 x.2) x.1⟩
theorem sRRising (x):M.le (S_ref08_rising x) (fcRising8.sh x):=M.le_det fun h=>by
 obtain ⟨l,m⟩:=x
 change l.length<2 ^ 63 at h
 unfold S_ref08_rising
 rw [M.loop_listT (List.range l.length) (fun i (_:Unit)=>(l,m,(i:Int),())) (fun i b=>if (!(inR (l.getD i 0) 0 m&&!(decide (0<i)&&decide (l.getD i 0≤l.getD (i - 1) 0))))=true then .done (.done false) else .next b) (fun _=>.next ()) () ?_ ?_ ?_]
 ·rw [foldS_anyN (q:=fun i=>inR (l.getD i 0) 0 m&&!(decide (0<i)&&decide (l.getD i 0≤l.getD (i - 1) 0))) _ _ (fun _=>rfl)]
  show _=M.pure (risV (fun n=>inR n 0 m) l)
  unfold risV
  cases (List.range l.length).all fun i=>inR (l.getD i 0) 0 m&&!(decide (0<i)&&decide (l.getD i 0≤l.getD (i - 1) 0))<;>simp
 ·rfl
 ·intro i hi b
  have hi:i<l.length:=by simpa using hi
  have hw:=wrap64 (n:=(i:Int)+1) (by omega) (by omega)
  have hw2:=wrap64 (n:=(i:Int) - 1) (by omega) (by omega)
  have e2:((i:Int) - 1).toNat=i - 1:=by omega
  have eg:l.getD i 0=l[i]:=by simp [List.getD_eq_getElem?_getD,hi]
  have ep:(decide ((i:Int) > 0))=decide (0<i):=by rw [decide_eq_decide];omega
  simp only [ofNat_def,lt_len hi,if_true,List.getElem_range,getD_nat hi,in_len hi,M.req_True,eg,M.bind_pure,add_def,hw,hw2,e2,ep]
  have r0:0<i→(0:Int)≤(i:Int) - 1∧(i:Int) - 1<(l.length:Int):=by omega
  generalize l.getD (i - 1) 0=B
  generalize l[i]=A
  by_cases hA:A<0<;>by_cases hM:A > m<;>by_cases h0:0<i<;>by_cases hB:A≤B<;>simp_all [inR,Step.mapN,M.req_true]<;>(try omega)<;>(rw [if_neg (by omega),if_neg (by omega)])
 ·intro b
  simp
end Go.Fer
namespace Go.Fer
open M (Step)
set_option linter.unusedVariables false
set_option linter.unusedSimpArgs false
theorem risV_congr {p q:Int→Bool} {l:List Int} (h:∀ y∈l,p y=q y):risV p l=risV q l:=by
 unfold risV
 refine all_congr' fun i hi=>?_
 have hi:i<l.length:=by simpa using hi
 have eg:l.getD i 0=l[i]:=by simp [List.getD_eq_getElem?_getD,hi]
 rw [eg,h _ (List.getElem_mem hi)]
theorem inR_pred (n:Int) (k:Nat):inR n 0 ((k:Int) - 1)=(decide (0≤n)&&decide (n<(k:Int))):=by
 unfold inR
 rw [le_pred]
theorem gt_le (a b:Int):decide (a > b)=!decide (a≤b):=by rw [Bool.eq_iff_iff];simp
abbrev fcBrok:FC:=⟨.prod tI (.prod (.ptr tW) (.ptr tPc)),tB,fun x=>∃ w p,x.2=(some w,some p)∧smallW w∧isMakeV w p.2.2.2.1=true,fun x=>brokV (x.2.1.getD ([],[],0,[])) (x.2.2.getD (0,0,0,0,[])).2.2.2.1 x.1⟩
theorem sOBrok (x):M.le (S_orders_isShop_c1_c1 fcWithin.sh x) (fcBrok.sh x):=M.le_det fun h=>by
 obtain ⟨n,o⟩:=x
 obtain ⟨w,p,hf,hw,hm⟩:=h
 change o=_ at hf
 subst hf
 unfold S_orders_isShop_c1_c1
 have r:=isMakeV_iff.1 hm
 have hl:=slots_small hw p.2.2.2.1
 have hwr:=wrap64 (n:=((slotsOfV w p.2.2.2.1).length:Int) - 1) (by omega) (by omega)
 unfold slotsOfV at hwr
 simp only [FC.sh,fcWithin,Option.getD_some,ofNat_def,r,and_self,M.req_True,hwr,M.bind_det,le_pred]
 rfl
abbrev fcBadPiece:FC:=⟨.prod tPc (.ptr tW),tB,fun x=>x.1.2.2.2.2.length<2 ^ 63∧∃ w,x.2=some w∧smallW w,fun x=>!pieceV (x.2.getD ([],[],0,[])) x.1⟩
theorem sOBadPiece (x):M.le (S_orders_isShop_c1 fcWithin.sh fcHund.sh fcRising.sh fcBrok.sh x) (fcBadPiece.sh x):=M.le_det fun h=>by
 obtain ⟨p,o⟩:=x
 obtain ⟨hp,w,hf,hw⟩:=h
 change o=_ at hf
 change p.2.2.2.2.length<2 ^ 63 at hp
 subst hf
 unfold S_orders_isShop_c1
 have hl:=hw.2.1
 have hwr:=wrap64 (n:=((w.2.1.length:Int)) - 1) (by omega) (by omega)
 have e1:(decide (0≤p.2.2.2.1)&&decide (p.2.2.2.1<(w.2.1.length:Int)))=isMakeV w p.2.2.2.1:=rfl
 simp only [FC.sh,fcWithin,Option.getD_some,ofNat_def,M.req_True,hwr,M.bind_det,M.gdo_det,le_pred,implies_true,or_gdo,e1]
 have key:isMakeV w p.2.2.2.1=true→(risV (fun y=>(M.det (fcBrok.pre (y,some w,some p)) (fcBrok.g (y,some w,some p))).val false) p.2.2.2.2)=risV (brokV w p.2.2.2.1) p.2.2.2.2:=fun hm=>risV_congr fun y hy=>M.val_det
 rw [M.req_true]
 ·show M.pure _=M.pure _
  congr 1
  show _=!pieceV w p
  unfold pieceV
  cases hundV p.1<;>cases hundV p.2.1<;>cases hundV p.2.2.1<;>cases hm:isMakeV w p.2.2.2.1<;>simp [key,hm]
 ·intro hh
  have hm:isMakeV w p.2.2.2.1=true:=by
   cases hm:isMakeV w p.2.2.2.1
   ·rw [hm] at hh;simp at hh
   ·rfl
  exact ⟨hp,fun y hy=>⟨_,M.det_true ⟨w,p,rfl,hw,hm⟩ _⟩⟩
abbrev fcBadWish:FC:=⟨tWi,tB,fun x=>x.1.length<2 ^ 63,fun x=>!wishV x⟩
theorem sOBadWish (x):M.le (S_orders_isShop_c2 fcWithin.sh fcHund.sh fcRising.sh fcHund.sh x) (fcBadWish.sh x):=M.le_det fun h=>by
 unfold S_orders_isShop_c2
 have key:(risV (fun y=>(M.det (fcHund.pre y) (fcHund.g y)).val false) x.1)=risV hundV x.1:=risV_congr fun y hy=>M.val_det
 simp only [FC.sh,fcWithin,ofNat_def,M.req_True,M.bind_det,M.gdo_det,implies_true,or_gdo]
 rw [M.req_true]
 ·show M.pure _=M.pure (!wishV x)
  congr 1
  unfold wishV
  rw [key]
  have e:decide (x.2.1.1 > x.2.1.2)=!decide (x.2.1.1≤x.2.1.2):=by rw [Bool.eq_iff_iff];simp
  rw [e]
  show _=!(inR (x.1.length:Int) 1 8&&_&&_&&_&&_&&_&&_&&_)
  unfold inR
  cases decide (1≤(x.1.length:Int))<;>cases decide ((x.1.length:Int)≤8)<;>cases risV hundV x.1<;>cases hundV x.2.1.1<;>cases hundV x.2.1.2<;>simp
 ·exact fun _=>⟨h,fun y hy=>⟨_,M.det_true trivial _⟩⟩
abbrev fcBadDeliv:FC:=⟨.prod tDe (.ptr tW),tB,fun x=>∃ w,x.2=some w∧smallW w,fun x=>!delivV (x.2.getD ([],[],0,[])) x.1⟩
theorem sOBadDeliv (x):M.le (S_orders_isShop_c3 fcWithin.sh fcHund.sh x) (fcBadDeliv.sh x):=M.le_det fun h=>by
 obtain ⟨d,o⟩:=x
 obtain ⟨w,hf,hw⟩:=h
 change o=_ at hf
 subst hf
 unfold S_orders_isShop_c3
 have hl:=hw.1
 have hwr:=wrap64 (n:=((w.1.length:Int)) - 1) (by omega) (by omega)
 simp only [FC.sh,fcWithin,Option.getD_some,ofNat_def,M.req_True,hwr,M.bind_det,M.gdo_det,le_pred,implies_true,or_gdo]
 show M.pure _=M.pure (!delivV w d)
 congr 1
 unfold delivV isSpareV inR
 cases hundV d.1<;>cases decide (0≤d.2.1)<;>cases decide (d.2.1<(w.1.length:Int))<;>simp
abbrev fcBadStock:FC:=⟨tI,tB,fun _=>True,fun n=>!inR n 0 10⟩
theorem sOBadStock (x):M.le (S_orders_isShop_c4 fcWithin.sh x) (fcBadStock.sh x):=M.le_det fun _=>by
 unfold S_orders_isShop_c4
 simp [FC.sh,fcWithin,inR]
theorem any_not' {α:Type} {p q:α→Bool} {l:List α} (h:∀ x∈l,p x=!q x):l.any p=!l.all q:=by
 rw [Bool.eq_iff_iff]
 simp only [List.any_eq_true,Bool.not_eq_true',List.all_eq_false]
 constructor
 ·rintro ⟨x,hx,hp⟩;exact ⟨x,hx,by have:=h x hx;rw [hp] at this;simpa using this.symm⟩
 ·rintro ⟨x,hx,hp⟩;exact ⟨x,hx,by rw [h x hx];simpa using hp⟩
abbrev fcIsShop:FC:=⟨tS,tB,smallS,shopV⟩
theorem sOIsShop (x):M.le (S_orders_isShop fcHund.sh (fcContainsFunc tI).sh (fcContainsFunc tPc).sh (fcContainsFunc tWi).sh (fcContainsFunc tDe).sh fcBadPiece.sh fcBadDeliv.sh fcBadWish.sh fcBadStock.sh x) (fcIsShop.sh x):=M.le_det fun h=>by
 obtain ⟨h1,h2,h3,h4,h5,h6,h7⟩:=h
 unfold S_orders_isShop
 simp only [FC.sh,ofNat_def,M.req_True,M.bind_det,M.gdo_det,implies_true]
 have k1:(x.2.1.any fun y=>(M.det (fcBadStock.pre y) (fcBadStock.g y)).val false)=!x.2.1.all fun n=>inR n 0 10:=any_not' fun y _=>M.val_det
 have k2:(x.2.2.1.any fun y=>(M.det (fcBadPiece.pre (y,some x.1)) (fcBadPiece.g (y,some x.1))).val false)=!x.2.2.1.all (pieceV x.1):=any_not' fun y _=>M.val_det
 have k3:(x.2.2.2.1.any fun y=>(M.det (fcBadWish.pre y) (fcBadWish.g y)).val false)=!x.2.2.2.1.all wishV:=any_not' fun y _=>M.val_det
 have k4:(x.2.2.2.2.1.any fun y=>(M.det (fcBadDeliv.pre (y,some x.1)) (fcBadDeliv.g (y,some x.1))).val false)=!x.2.2.2.2.1.all (delivV x.1):=any_not' fun y _=>M.val_det
 rw [M.req_true,M.req_true,M.req_true,M.req_true]
 ·show M.pure _=M.pure (shopV x)
  congr 1
  unfold shopV
  simp only [k1,k2,k3,k4]
  cases decide ((x.2.1.length:Int)=(x.1.1.length:Int))<;>cases (x.2.1.all fun n=>inR n 0 10)<;>cases decide ((x.2.2.1.length:Int)≤8)<;>cases x.2.2.1.all (pieceV x.1)<;>cases decide ((x.2.2.2.1.length:Int)≤6)<;>cases x.2.2.2.1.all wishV<;>cases decide ((x.2.2.2.2.1.length:Int)≤8)<;>cases x.2.2.2.2.1.all (delivV x.1)<;>simp
 ·exact fun _=>⟨h5,fun y hy=>⟨_,M.det_true ⟨_,rfl,h1⟩ _⟩⟩
 ·exact fun _=>⟨h4,fun y hy=>⟨_,M.det_true (h7 y hy) _⟩⟩
 ·exact fun _=>⟨h3,fun y hy=>⟨_,M.det_true ⟨h6 y hy,_,rfl,h1⟩ _⟩⟩
 ·exact fun _=>⟨h2,fun y hy=>⟨_,M.det_true trivial _⟩⟩
abbrev fcErrS:FC:=⟨tS,tI,smallS,errS⟩
theorem sOCheck (x):M.le (S_orders_Check fcCheck.sh fcIsShop.sh x) (fcErrS.sh x):=M.le_det fun h=>by
 unfold S_orders_Check
 simp only [FC.sh,M.bind_det,M.req_true h.1]
 show _=M.pure (errS x)
 unfold errS
 by_cases hc:checkV x.1=0
 ·simp only [hc,ne_eq,not_true,decide_false,Bool.false_eq_true,if_false,M.req_true h]
  cases shopV x<;>simp
 ·simp [hc]
abbrev fcIsPiece8:FC:=⟨.prod tS tPc,tB,fun x=>smallS x.1∧x.2.2.2.2.2.length<2 ^ 63,fun x=>pieceV x.1.1 x.2⟩
theorem sRIsPiece (x):M.le (S_ref08_isPiece fcWithin.sh fcRising8.sh x) (fcIsPiece8.sh x):=M.le_det fun h=>by
 obtain ⟨s,p⟩:=x
 obtain ⟨hs,hp⟩:=h
 change smallS s at hs
 change p.2.2.2.2.length<2 ^ 63 at hp
 unfold S_ref08_isPiece
 have hl:=hs.1.2.1
 have hl2:=slots_small hs.1 p.2.2.2.1
 have hwr:=wrap64 (n:=((s.1.2.1.length:Int)) - 1) (by omega) (by omega)
 have hwr2:=wrap64 (n:=((slotsOfV s.1 p.2.2.2.1).length:Int) - 1) (by omega) (by omega)
 unfold slotsOfV at hwr2
 have e1:(decide (0≤p.2.2.2.1)&&decide (p.2.2.2.1<(s.1.2.1.length:Int)))=isMakeV s.1 p.2.2.2.1:=rfl
 simp only [FC.sh,fcWithin,ofNat_def,M.req_True,hwr,hwr2,M.bind_det,M.gdo_det,le_pred,implies_true,or_gdo,e1,M.safe_det,M.val_det]
 show _=M.pure (pieceV s.1 p)
 unfold pieceV
 have er:risV (fun n=>inR n 0 (((List.getD s.1.2.1 (Int.toNat p.2.2.2.1) []).length:Int) - 1)) p.2.2.2.2=risV (brokV s.1 p.2.2.2.1) p.2.2.2.2:=risV_congr fun y _=>inR_pred y _
 rw [er]
 cases hm:isMakeV s.1 p.2.2.2.1
 ·simp
 ·have r:=isMakeV_iff.1 hm
  rw [M.req_true r,M.req_true (by exact hp)]
  unfold hundV inR
  cases decide (0≤p.1)<;>cases decide (p.1≤99)<;>cases decide (0≤p.2.1)<;>cases decide (p.2.1≤99)<;>cases decide (0≤p.2.2.1)<;>cases decide (p.2.2.1≤99)<;>simp
abbrev fcIsWish8:FC:=⟨tWi,tB,fun x=>x.1.length<2 ^ 63,wishV⟩
theorem sRIsWish (x):M.le (S_ref08_isWish fcWithin.sh fcRising8.sh x) (fcIsWish8.sh x):=M.le_det fun h=>by
 unfold S_ref08_isWish
 simp only [FC.sh,fcWithin,ofNat_def,M.req_True,M.bind_det,M.gdo_det,implies_true]
 rw [M.req_true (by exact fun _=>h)]
 show M.pure _=M.pure (wishV x)
 congr 1
 unfold wishV
 have er:risV (fun n=>inR n 0 99) x.1=risV hundV x.1:=rfl
 rw [er]
 unfold hundV inR
 rw [Bool.eq_iff_iff]
 simp only [Bool.and_eq_true,decide_eq_true_eq,ite_eq_left_iff,Bool.if_false_right]
 constructor
 ·intro hh;simp_all<;>omega
 ·intro hh;simp_all<;>omega
theorem sRCheck8 (x):M.le (S_ref08_Check fcCheck.sh fcWithin.sh fcIsPiece8.sh fcIsWish8.sh x) (fcErrS.sh x):=M.le_det fun h=>by
 have hs:=h
 obtain ⟨h1,h2,h3,h4,h5,h6,h7⟩:=h
 unfold S_ref08_Check
 simp only [FC.sh,M.bind_det,M.req_true h1]
 show _=M.pure (errS x)
 unfold errS
 by_cases hc:checkV x.1=0
 ·simp only [hc,ne_eq,not_true,decide_false,Bool.false_eq_true,if_false,fcWithin,M.gdo_det,M.bind_det,implies_true,M.req_True,ofNat_def,or_gdo,decide_not]
  have e:(!decide ((x.2.1.length:Int)=(x.1.1.length:Int))||decide ((x.2.2.1.length:Int) > 8)||decide ((x.2.2.2.1.length:Int) > 6)||decide ((x.2.2.2.2.1.length:Int) > 8)||!(decide (0≤x.2.2.2.2.2)&&decide (x.2.2.2.2.2≤99)))=!(decide ((x.2.1.length:Int)=(x.1.1.length:Int))&&decide ((x.2.2.1.length:Int)≤8)&&decide ((x.2.2.2.1.length:Int)≤6)&&decide ((x.2.2.2.2.1.length:Int)≤8)&&hundV x.2.2.2.2.2):=by
   simp only [gt_le,hundV,inR,Bool.not_and]
  rw [e]
  by_cases hh:(decide ((x.2.1.length:Int)=(x.1.1.length:Int))&&decide ((x.2.2.1.length:Int)≤8)&&decide ((x.2.2.2.1.length:Int)≤6)&&decide ((x.2.2.2.2.1.length:Int)≤8)&&hundV x.2.2.2.2.2)=true
  ·rw [if_neg (by rw [hh];simp)]
   ·rw [M.loop_listT x.2.1 (fun i (_:Unit)=>((i:Int),x,())) (fun n b=>if (!inR n 0 10)=true then .done (.done (80:Int)) else .next b) (fun _=>.next (x,())) () ?_ ?_ ?_]
    ·rw [foldS_anyN (q:=fun n=>inR n 0 10) _ _ (fun _=>rfl)]
     cases hA:x.2.1.all fun n=>inR n 0 10 with
     | false=>simp [shopV,hA]
     | true=>
      simp only [M.bind_pure,if_true,M.go_next]
      rw [M.loop_listT x.2.2.1 (fun i (_:Unit)=>((i:Int),x,())) (fun p b=>if (!pieceV x.1 p)=true then .done (.done (80:Int)) else .next b) (fun _=>.next (x,())) () ?_ ?_ ?_]
      ·rw [foldS_anyN (q:=pieceV x.1) _ _ (fun _=>rfl)]
       cases hB:x.2.2.1.all (pieceV x.1) with
       | false=>simp [shopV,hB]
       | true=>
        simp only [M.bind_pure,if_true,M.go_next]
        rw [M.loop_listT x.2.2.2.1 (fun i (_:Unit)=>((i:Int),x,())) (fun p b=>if (!wishV p)=true then .done (.done (80:Int)) else .next b) (fun _=>.next (x,())) () ?_ ?_ ?_]
        ·rw [foldS_anyN (q:=wishV) _ _ (fun _=>rfl)]
         cases hC:x.2.2.2.1.all wishV with
         | false=>simp [shopV,hC]
         | true=>
          simp only [M.bind_pure,if_true,M.go_next]
          rw [M.loop_listT x.2.2.2.2.1 (fun i (_:Unit)=>((i:Int),x,())) (fun p b=>if (!delivV x.1 p)=true then .done (.done (80:Int)) else .next b) (fun _=>.next ()) () ?_ ?_ ?_]
          ·rw [foldS_anyN (q:=delivV x.1) _ _ (fun _=>rfl)]
           simp only [Bool.and_eq_true] at hh
           cases hD:x.2.2.2.2.1.all (delivV x.1)<;>simp [shopV,hA,hB,hC,hD,hh]
          ·rfl
          ·intro i hi b
           have hw:=wrap64 (n:=(i:Int)+1) (by omega) (by omega)
           have hl:=h1.1
           have hwr:=wrap64 (n:=((x.1.1.length:Int)) - 1) (by omega) (by omega)
           simp only [ofNat_def,lt_len hi,if_true,getD_nat hi,in_len hi,M.req_True,M.bind_pure,add_def,hw,hwr,or_gdo,le_pred]
           have e:(!(decide (0≤(x.2.2.2.2.1[i]).1)&&decide ((x.2.2.2.2.1[i]).1≤99))||!(decide (0≤(x.2.2.2.2.1[i]).2.1)&&decide ((x.2.2.2.2.1[i]).2.1<(x.1.1.length:Int)))||!(decide (1≤(x.2.2.2.2.1[i]).2.2)&&decide ((x.2.2.2.2.1[i]).2.2≤10)))=!delivV x.1 x.2.2.2.2.1[i]:=by
            unfold delivV hundV isSpareV inR
            simp only [Bool.not_and]
           rw [e]
           exact fin_step (mk:=fun _:Unit=>((i:Int)+1,x,()))
          ·intro b
           simp
        ·rfl
        ·intro i hi b
         have hw:=wrap64 (n:=(i:Int)+1) (by omega) (by omega)
         simp only [ofNat_def,lt_len hi,if_true,getD_nat hi,in_len hi,M.req_True,M.bind_pure,add_def,hw,M.req_true (show fcIsWish8.pre x.2.2.2.1[i] from h7 _ (List.getElem_mem hi))]
         exact fin_step (mk:=fun _:Unit=>((i:Int)+1,x,()))
        ·intro b
         simp
      ·rfl
      ·intro i hi b
       have hw:=wrap64 (n:=(i:Int)+1) (by omega) (by omega)
       simp only [ofNat_def,lt_len hi,if_true,getD_nat hi,in_len hi,M.req_True,M.bind_pure,add_def,hw,M.safe_det,M.val_det,M.req_true (show fcIsPiece8.pre (x,x.2.2.1[i]) from ⟨hs,h6 _ (List.getElem_mem hi)⟩)]
       exact fin_step (mk:=fun _:Unit=>((i:Int)+1,x,()))
      ·intro b
       simp
    ·rfl
    ·intro i hi b
     have hw:=wrap64 (n:=(i:Int)+1) (by omega) (by omega)
     simp only [ofNat_def,lt_len hi,if_true,getD_nat hi,in_len hi,M.req_True,M.bind_pure,add_def,hw]
     exact fin_step (mk:=fun _:Unit=>((i:Int)+1,x,()))
    ·intro b
     simp
  ·rw [if_pos (by rw [Bool.not_eq_true] at hh;rw [hh];rfl)]
   ·have:shopV x=false:=by
     unfold shopV
     simp only [Bool.and_eq_true] at hh
     rw [Bool.eq_false_iff]
     simp only [ne_eq,Bool.and_eq_true]
     intro k
     exact hh ⟨⟨⟨⟨k.1.1.1.1.1.1.1.1,k.1.1.1.1.1.1.2⟩,k.1.1.1.1.2⟩,k.1.1.2⟩,k.2⟩
    simp [this]
 ·simp [hc]
end Go.Fer
namespace Go.Fer
open M (Step)
set_option linter.unusedVariables false
set_option linter.unusedSimpArgs false
theorem mulChk_200:mulChk 201=true:=by decide +kernel
abbrev fcMul8:FC:=⟨.prod (.int .u64) (.int .u64),.prod (.int .u64) (.int .u64),fun x=>x.1=1∧0≤x.2∧x.2≤200,fun x=>(0,x.2)⟩
theorem sMul648 (x):M.le (S_math_bits_Mul64 x) (fcMul8.sh x):=M.le_det fun h=>by
 obtain ⟨a,b⟩:=x
 obtain ⟨h1,h2,h3⟩:=h
 change a=1 at h1
 change 0≤b at h2
 change b≤200 at h3
 subst h1
 have h0:=mul_eq 201 b.toNat mulChk_200 (by omega)
 rw [Int.toNat_of_nonneg h2] at h0
 have hw:=wrapU64 (n:=1*b) (by omega) (by omega)
 have h32:((0:Int)≤32)=True:=by simp
 unfold S_math_bits_Mul64
 simp only [h32,M.req_True]
 show M.pure (mulHi (1,b),IntKind.wrap .u64 (1*b))=_
 rw [h0,hw,Int.one_mul]
theorem sMul8 (c32) (x):M.le (S_math_bits_Mul c32 fcMul8.sh x) (fcMul8.sh x):=M.le_det fun h=>by
 unfold S_math_bits_Mul
 simp only [FC.sh,M.bind_det]
 rw [M.req_true (by exact h)]
section
variable {α β:Type}
theorem rep_stepG (a d:α) (m J:Nat) (h1:1≤m) (h2:m<J) :
  List.take m (List.replicate m a++List.replicate (J - m) d)++List.take (J - m) (List.take m (List.replicate m a++List.replicate (J - m) d))++
   List.drop (m+(List.take (J - m) (List.take m (List.replicate m a++List.replicate (J - m) d))).length) (List.replicate m a++List.replicate (J - m) d)
  =List.replicate (m+min (J - m) m) a++List.replicate (J - (m+min (J - m) m)) d:=by
 have e1:List.take m (List.replicate m a++List.replicate (J - m) d)=List.replicate m a:=by
  rw [List.take_append_of_le_length (by simp)];simp
 rw [e1,List.take_replicate,List.replicate_append_replicate,List.length_replicate,List.drop_append,List.length_replicate]
 have e2:List.drop (m+min (J - m) m) (List.replicate m a)=[]:=by simp
 rw [e2,List.nil_append,List.drop_replicate]
 congr 2
 omega
def G_Repeat (d:α) (fin:List α→M β) (c_math_bits_Mul:Int×Int→M (Int×Int)) (x:List α) (n:Int):M β:=
 M.bind (if decide (n<0)=true then M.req False (M.req False (M.pure (Step.next (x,n,())))) else M.pure (Step.next (x,n,())))
 (Step.go fun (σ:List α×Int×Unit)=>M.bind (c_math_bits_Mul (IntKind.wrap .u64 (Int.ofNat (List.length σ.1)),IntKind.wrap .u64 σ.2.1)) fun y
 =>M.bind (if (decide (y.1 > 0)||decide (y.2 > 9223372036854775807))=true then M.req False (M.req False (M.pure (Step.next (σ.1,y.2,())))) else
 M.pure (Step.next (σ.1,y.2,()))) (Step.go fun (σ:List α×Int×Unit)=>M.req (0≤IntKind.wrap .i64 σ.2.1∧IntKind.wrap .i64 σ.2.1=
 IntKind.wrap .i64 σ.2.1∧lenLe (Int.toNat (IntKind.wrap .i64 σ.2.1))) (M.req True (M.bind (M.loop (fun (σ:Int×List α×Unit)=>if decide (σ.1
 < Int.ofNat (List.length σ.2.1))=true then M.req (0≤σ.1∧σ.1≤Int.ofNat (List.length σ.2.1)∧Int.ofNat (List.length σ.2.1)≤Int.ofNat
 (List.length σ.2.1)) (M.req ((0:Int)≤0∧0≤σ.1∧σ.1≤Int.ofNat (List.length σ.2.1)) (M.req True (M.pure (Step.next (IntKind.wrap .i64
 (Add.add σ.1 (Int.ofNat (if Int.toNat (Int.ofNat (List.length σ.2.1)) - Int.toNat σ.1≤List.length (List.take (Int.toNat σ.1) σ.2.1) then Int.toNat
 (Int.ofNat (List.length σ.2.1)) - Int.toNat σ.1 else List.length (List.take (Int.toNat σ.1) σ.2.1)))),List.take (Int.toNat σ.1) σ.2.1++List.take
 (Int.toNat (Int.ofNat (List.length σ.2.1)) - Int.toNat σ.1) (List.take (Int.toNat σ.1) σ.2.1)++List.drop (Add.add (Int.toNat σ.1) (List.length
 (List.take (Int.toNat (Int.ofNat (List.length σ.2.1)) - Int.toNat σ.1) (List.take (Int.toNat σ.1) σ.2.1)))) σ.2.1,()))))) else M.bind (M.pure
 (Step.next (σ.2.1,()))) fun r=>M.pure (Step.done r)) (Int.ofNat (if List.length (List.replicate (Int.toNat (IntKind.wrap .i64 σ.2.1)) d) - 0≤
 List.length σ.1 then List.length (List.replicate (Int.toNat (IntKind.wrap .i64 σ.2.1)) d) - 0 else List.length σ.1),[]++List.take (List.length
 (List.replicate (Int.toNat (IntKind.wrap .i64 σ.2.1)) d) - 0) σ.1++List.drop (Add.add 0 (List.length (List.take (List.length (List.replicate
 (Int.toNat (IntKind.wrap .i64 σ.2.1)) d) - 0) σ.1))) (List.replicate (Int.toNat (IntKind.wrap .i64 σ.2.1)) d),())) (Step.go fun (σ:List α×
 Unit)=>fin σ.1)))))
theorem gRepeat (d a:α) (fv:List α→β) (n:Int) (h2:0≤n) (h3:n≤200):M.Ret (G_Repeat d (fun l=>M.pure (fv l)) fcMul8.sh [a] n) fun y=>y=fv (List.replicate n.toNat a):=by
 obtain ⟨J,rfl⟩:=Int.eq_ofNat_of_zero_le h2
 have hneg:decide ((J:Int)<0)=false:=by simp
 have hw1:IntKind.u64.wrap (Int.ofNat ([a]:List α).length)=1:=wrapU64 (by simp) (by simp)
 have hwJ:=wrapU64 (n:=(J:Int)) (by omega) (by omega)
 have hwi:=wrap64 (n:=(J:Int)) (by omega) (by omega)
 have hp:fcMul8.pre (1,(J:Int)):=⟨rfl,h2,h3⟩
 have hbig:decide ((J:Int) > 9223372036854775807)=false:=by simp;omega
 have hll:lenLe J:=by unfold lenLe;omega
 have hr:0≤(J:Int)∧True∧lenLe (Int.toNat (J:Int)):=⟨h2,trivial,by rw [Int.toNat_natCast];exact hll⟩
 unfold G_Repeat
 simp only [hneg,Bool.false_eq_true,if_false,M.bind_pure,M.go_next,hw1,hwJ,FC.sh,M.bind_det]
 rw [M.req_true (by exact ⟨trivial,h2,h3⟩)]
 simp only [gt_iff_lt,Int.lt_irrefl,decide_false,Bool.false_or,Bool.false_eq_true,if_false,M.bind_pure,M.go_next,hwi]
 have hbig':decide ((9223372036854775807:Int)<(J:Int))=false:=hbig
 simp only [hbig',Bool.false_eq_true,if_false,M.bind_pure,M.go_next,hwi]
 rw [M.req_true hr]
 simp only [M.req_True,M.ret_bind,Int.toNat_natCast,List.length_replicate,Nat.sub_zero,List.nil_append,List.length_singleton,ofNat_def,add_defN,Nat.zero_add]
 refine M.ret_loop (fun s=>∃ m:Nat,(1≤m∨J=0)∧m≤J∧s=((m:Int),List.replicate m a++List.replicate (J - m) d,())) (fun s=>J - s.1.toNat) ?_ _ ?_
 ·rintro s ⟨m,hm,hmJ,rfl⟩
  have hlen:(List.replicate m a++List.replicate (J - m) d).length=J:=by simp;omega
  simp only [hlen]
  by_cases hlt:m<J
  ·have hr1:0≤(m:Int)∧(m:Int)≤(J:Int)∧(J:Int)≤(J:Int):=by omega
   have hr2:(0:Int)≤0∧0≤(m:Int)∧(m:Int)≤(J:Int):=by omega
   have hm1:1≤m:=by omega
   have htl:(List.take m (List.replicate m a++List.replicate (J - m) d)).length=m:=by simp
   simp only [lt_len hlt,if_true,M.req_true hr1,M.req_true hr2,M.req_True,Int.toNat_natCast,htl,add_def]
   rw [M.ret_pure,rep_stepG a d m J hm1 hlt]
   have hif:(if J - m≤m then J - m else m)=min (J - m) m:=by split<;>omega
   rw [hif]
   have hw2:=wrap64 (n:=(m:Int)+((min (J - m) m:Nat):Int)) (by omega) (by omega)
   refine ⟨⟨m+min (J - m) m,.inl (by omega),by omega,?_⟩,?_⟩
   ·rw [hw2];simp
   ·simp only [hw2];omega
  ·have:m=J:=by omega
   subst this
   simp only [Int.lt_irrefl,decide_false,Bool.false_eq_true,if_false,M.bind_pure,M.ret_pure,M.go_next,Nat.sub_self,List.replicate_zero,List.append_nil]
 ·by_cases hJ:J=0
  ·subst hJ
   exact ⟨0,.inr rfl,Nat.le_refl _,by simp⟩
  ·refine ⟨1,.inl (Nat.le_refl _),by omega,?_⟩
   have e1:(if J≤1 then J else 1)=1:=by split<;>omega
   have e2:List.take J ([a]:List α)=[a]:=List.take_of_length_le (by simp;omega)
   rw [e1,e2]
   simp [List.drop_replicate]
end
abbrev fcRepI:FC:=⟨.prod tInts tI,tInts,fun x=>x.1=[-1]∧0≤x.2∧x.2≤200,fun x=>List.replicate x.2.toNat (-1)⟩
theorem sRepI (x):M.le (S_slices_Repeat_int_int fcMul8.sh x) (fcRepI.sh x):=M.le_detR fun h=>by
 obtain ⟨l,n⟩:=x
 obtain ⟨h1,h2,h3⟩:=h
 change l=[-1] at h1
 subst h1
 exact gRepeat (0:Int) (-1) (fun l=>l) n h2 h3
def shRepIO (x:List Int×Int×Unit):M (List Int×Unit):=M.det (x.1=[-1]∧0≤x.2.1∧x.2.1≤200) (List.replicate x.2.1.toNat (-1),())
theorem sRepIO (x):M.le (S_slices_RepeatIO fcMul8.sh x) (shRepIO x):=M.le_detR fun h=>by
 obtain ⟨l,n,u⟩:=x
 obtain ⟨h1,h2,h3⟩:=h
 change l=[-1] at h1
 subst h1
 exact gRepeat (0:Int) (-1) (fun l=>(l,())) n h2 h3
abbrev tSp:Ty:=.st (.prod tI tI)
abbrev fcRepS:FC:=⟨.prod (.slice tSp) tI,.slice tSp,fun x=>x.1.length=1∧0≤x.2∧x.2≤200,fun x=>List.replicate x.2.toNat (x.1.getD 0 (0,0))⟩
theorem sRepS (x):M.le (S_slices_Repeat_orders_spare_orders_spare fcMul8.sh x) (fcRepS.sh x):=M.le_detR fun h=>by
 obtain ⟨l,n⟩:=x
 obtain ⟨h1,h2,h3⟩:=h
 change l.length=1 at h1
 obtain ⟨a,rfl⟩:=List.length_eq_one_iff.1 h1
 exact gRepeat ((0,0):Int×Int) a (fun l=>l) n h2 h3
end Go.Fer
namespace Go.Fer
open M (Step)
set_option linter.unusedVariables false
set_option linter.unusedSimpArgs false
def isWishN (s:Shop) (n:Int):Bool:=decide (0≤n)&&decide (n<(s.2.2.2.1.length:Int))
def isPieceN (s:Shop) (n:Int):Bool:=decide (0≤n)&&decide (n<(s.2.2.1.length:Int))
def isDelivN (s:Shop) (n:Int):Bool:=decide (0≤n)&&decide (n<(s.2.2.2.2.1.length:Int))
theorem isWishN_iff {s:Shop} {n:Int}:isWishN s n=true↔0≤n∧n<(s.2.2.2.1.length:Int):=by simp [isWishN]
theorem isPieceN_iff {s:Shop} {n:Int}:isPieceN s n=true↔0≤n∧n<(s.2.2.1.length:Int):=by simp [isPieceN]
theorem isDelivN_iff {s:Shop} {n:Int}:isDelivN s n=true↔0≤n∧n<(s.2.2.2.2.1.length:Int):=by simp [isDelivN]
abbrev fcIsWishN:FC:=⟨.prod tS tI,tB,fun x=>smallS x.1,fun x=>isWishN x.1 x.2⟩
abbrev fcIsPieceN:FC:=⟨.prod tS tI,tB,fun x=>smallS x.1,fun x=>isPieceN x.1 x.2⟩
abbrev fcIsDelivN:FC:=⟨.prod tS tI,tB,fun x=>smallS x.1,fun x=>isDelivN x.1 x.2⟩
theorem sOIsWish (x):M.le (S_orders_isWish fcWithin.sh x) (fcIsWishN.sh x):=M.le_det fun h=>by
 have hl:=h.2.2.2.1
 have hw:=wrap64 (n:=(x.1.2.2.2.1.length:Int) - 1) (by omega) (by omega)
 unfold S_orders_isWish
 simp [FC.sh,fcWithin,hw,isWishN,le_pred]
theorem sOIsPieceN (x):M.le (S_orders_isPiece fcWithin.sh x) (fcIsPieceN.sh x):=M.le_det fun h=>by
 have hl:=h.2.2.1
 have hw:=wrap64 (n:=(x.1.2.2.1.length:Int) - 1) (by omega) (by omega)
 unfold S_orders_isPiece
 simp [FC.sh,fcWithin,hw,isPieceN,le_pred]
theorem sOIsDeliv (x):M.le (S_orders_isDelivery fcWithin.sh x) (fcIsDelivN.sh x):=M.le_det fun h=>by
 have hl:=h.2.2.2.2.1
 have hw:=wrap64 (n:=(x.1.2.2.2.2.1.length:Int) - 1) (by omega) (by omega)
 unfold S_orders_isDelivery
 simp [FC.sh,fcWithin,hw,isDelivN,le_pred]
def suitV (x:Wi) (p:Pc):Int:=if (!x.1.contains p.1||!inR p.2.1 x.2.1.1 x.2.1.2)=true then 0 else if p.2.2.1=x.2.2.1 then 1 else if p.2.2.1=0 then 2 else 0
theorem suit_if (a b:Int):(if decide (a=b)=true then M.pure (1:Int) else if decide (a=0)=true then M.pure 2 else M.pure 0)=M.pure (if a=b then 1 else if a=0 then 2 else 0):=by
 by_cases h2:a=b
 ·simp [h2]
 ·by_cases h3:a=0
  ·have h4:¬(0:Int)=b:=fun e=>h2 (h3.trans e)
   simp [h3,h4]
  ·simp [h2,h3]
abbrev fcSuit:FC:=⟨.prod tWi tPc,tI,fun x=>x.1.1.length<2 ^ 63,fun x=>suitV x.1 x.2⟩
theorem sOSuit (x):M.le (S_orders_suits fcWithin.sh fcIn.sh x) (fcSuit.sh x):=M.le_det fun h=>by
 unfold S_orders_suits
 simp only [FC.sh,fcWithin,fcIn,M.bind_det,M.gdo_det,implies_true,M.req_True,or_gdo]
 rw [M.req_true (by exact h)]
 show _=M.pure (suitV x.1 x.2)
 unfold suitV inR
 by_cases h1:(!x.1.1.contains x.2.1||!(decide (x.1.2.1.1≤x.2.2.1)&&decide (x.2.2.1≤x.1.2.1.2)))=true
 ·rw [if_pos h1,if_pos h1]
 ·rw [if_neg h1,if_neg h1]
  exact suit_if _ _
def suitsR (s:Shop) (w p:Int):Int×Int:=if errS s≠0 then (0,errS s) else if (!isWishN s w||!isPieceN s p)=true then (0,1) else (suitV (s.2.2.2.1.getD w.toNat ([],(0,0),0,0,0)) (s.2.2.1.getD p.toNat (0,0,0,0,[])),0)
abbrev fcSuits:FC:=⟨.prod tS (.prod tI tI),.prod tI tI,fun x=>smallS x.1,fun x=>suitsR x.1 x.2.1 x.2.2⟩
theorem small_wish {s:Shop} (h:smallS s) (n:Int):(s.2.2.2.1.getD n.toNat ([],(0,0),0,0,0)).1.length<2 ^ 63:=by
 rw [List.getD_eq_getElem?_getD]
 cases h':s.2.2.2.1[n.toNat]? with
 | none=>simp
 | some x=>exact h.2.2.2.2.2.2 x (List.mem_of_getElem? h')
theorem sOSuits (x):M.le (S_orders_Suits fcErrS.sh fcIsWishN.sh fcIsPieceN.sh fcSuit.sh x) (fcSuits.sh x):=M.le_det fun h=>by
 unfold S_orders_Suits
 show _=M.pure (suitsR x.1 x.2.1 x.2.2)
 unfold suitsR
 simp only [FC.sh,M.bind_det,M.gdo_det,M.safe_det,M.val_det]
 rw [M.req_true (by exact h)]
 by_cases he:errS x.1=0
 ·simp only [he,ne_eq,not_true,decide_false,Bool.false_eq_true,if_false]
  rw [M.req_true (by exact h),M.req_true (by exact fun _=>h)]
  cases hw:isWishN x.1 x.2.1
  ·simp
  ·cases hp:isPieceN x.1 x.2.2
   ·simp
   ·simp only [Bool.not_true,Bool.false_eq_true,if_false,if_true,Bool.or_self,Bool.not_false,ofNat_def]
    rw [M.req_true (by exact isWishN_iff.1 hw),M.req_true (by exact isPieceN_iff.1 hp),M.req_true (by exact small_wish h _)]
 ·simp [he]
end Go.Fer
namespace Go.Fer
open M (Step)
set_option linter.unusedVariables false
set_option linter.unusedSimpArgs false
def knownS (s:Shop) (is:Bool):Int:=if errS s≠0 then errS s else if is=false then 1 else knownV s.1 true
theorem errS_0 {s:Shop} (h:errS s=0):checkV s.1=0∧shopV s=true:=by
 unfold errS at h
 by_cases hc:checkV s.1=0
 ·rw [if_neg (by simp [hc])] at h
  by_cases hv:shopV s=true
  ·exact ⟨hc,hv⟩
  ·rw [if_neg hv] at h;cases h
 ·rw [if_pos hc] at h;exact absurd h hc
theorem knownS_0 {s:Shop} {is:Bool} (h:knownS s is=0):errS s=0∧is=true∧knownV s.1 true=0∧hasTruth s.1=true:=by
 unfold knownS at h
 by_cases he:errS s=0
 ·rw [if_neg (by simp [he])] at h
  cases is with
  | false=>simp at h
  | true=>
   simp only [Bool.true_eq_false,if_false] at h
   exact ⟨he,rfl,h,(knownV_0 h).2.2⟩
 ·rw [if_pos he] at h;exact absurd h he
structure Val (s:Shop):Prop where
 small:smallS s
 good:goodW s.1
 stockLen:s.2.1.length=s.1.1.length
 stock:∀ n∈s.2.1,0≤n∧n≤10
 pieces:s.2.2.1.length≤8
 piece:∀ p∈s.2.2.1,pieceV s.1 p=true
 wishes:s.2.2.2.1.length≤6
 wish:∀ x∈s.2.2.2.1,wishV x=true
 delivs:s.2.2.2.2.1.length≤8
 deliv:∀ d∈s.2.2.2.2.1,delivV s.1 d=true
 carve:0≤s.2.2.2.2.2∧s.2.2.2.2.2≤99
theorem val_of {s:Shop} (hs:smallS s) (h:errS s=0):Val s:=by
 obtain ⟨h1,h2⟩:=errS_0 h
 simp only [shopV,Bool.and_eq_true,decide_eq_true_eq,List.all_eq_true,inR,hundV] at h2
 obtain ⟨⟨⟨⟨⟨⟨⟨⟨k1,k2⟩,k3⟩,k4⟩,k5⟩,k6⟩,k7⟩,k8⟩,k9⟩:=h2
 exact ⟨hs,⟨hs.1,wV_of_check h1⟩,by omega,k2,by omega,k4,by omega,k6,by omega,k8,k9⟩
theorem Val.spares {s:Shop} (h:Val s):s.1.1.length≤10:=(wV_head h.good.2).1
def fitSt (w:Wsh) (t:List ((Int×Int×Int)×Int)) (q:Int×Int×Int):List ((Int×Int×Int)×Int):=if fitsV w q.1 q.2.1 q.2.2=1 then msetT t q (IntKind.i64.wrap ((mlkT t q).getD 0+1)) else t
def fitsK (w:Wsh) (i m:Nat) (t:List ((Int×Int×Int)×Int)):List ((Int×Int×Int)×Int):=(List.range (slotsOfV w (m:Int)).length).foldl (fun t (k:Nat)=>fitSt w t ((i:Int),(m:Int),(k:Int))) t
def fitsM (w:Wsh) (i:Nat) (t:List ((Int×Int×Int)×Int)):List ((Int×Int×Int)×Int):=(List.range w.2.1.length).foldl (fun t m=>fitsK w i m t) t
def fitsA (w:Wsh) (n:Nat):List ((Int×Int×Int)×Int):=(List.range n).foldl (fun t i=>fitsM w i t) []
def repS (p:Int×Int) (n:Int):List (Int×Int):=List.replicate n.toNat p
def stockSp (l:List Int):List (Int×Int):=(List.range l.length).flatMap fun (i:Nat)=>repS ((i:Int),0) (l.getD i 0)
def delSp (l:List De):List (Int×Int):=l.flatMap fun d=>repS (d.2.1,d.1) d.2.2
def sparesV (s:Shop):List (Int×Int):=stockSp s.2.1++delSp s.2.2.2.2.1
def stoV (s:Shop):Sto:=(s,sparesV s,fitsA s.1 s.2.1.length)
def openS (s:Shop) (is:Bool):Option Sto×Int:=if knownS s is≠0 then (none,knownS s is) else (some (stoV s),0)
theorem foldl_flat {α β:Type} (f:α→List β):∀ (l:List α) (b:List β),l.foldl (fun b x=>b++f x) b=b++l.flatMap f
 | [],b=>by simp
 | x::l,b=>by rw [List.foldl_cons,foldl_flat f l,List.flatMap_cons,List.append_assoc]
abbrev tFit:Ty:=.st (.prod tI (.prod tI tI))
abbrev tSto:Ty:=.ptr (.st (.prod tS (.prod (.slice tSp) (.map tFit tI))))
abbrev fcOpenS:FC:=⟨.prod tS tB,.prod tSto tI,fun x=>smallS x.1,fun x=>openS x.1 x.2⟩
theorem eOOpen (s:Shop) (is:Bool) (hs:smallS s):S_orders_open fcErrS.sh fcLength.sh fcFits.sh fcRepS.sh (s,is)=M.pure (openS s is):=by
 unfold S_orders_open openS knownS
 simp only [FC.sh,M.bind_det,M.req_true hs]
 by_cases he:errS s=0
 ·have hv:=val_of hs he
  simp only [he,ne_eq,not_true,decide_false,Bool.false_eq_true,if_false]
  cases is with
  | false=>simp
  | true=>
   simp only [Bool.not_true,Bool.false_eq_true,if_false,Bool.true_eq_false]
   refine Eq.trans (congrArg (fun m=>M.bind m _) (show _=(if knownV s.1 true≠0 then M.pure (Step.done ((none:Option Sto),knownV s.1 true)) else M.pure (Step.next (s,([]:List ((Int×Int×Int)×Int)),s.1.1,s.1.2.1,s.1.2.2.1,s.1.2.2.2,s.2.1,s.2.2.1,s.2.2.2.1,s.2.2.2.2.1,s.2.2.2.2.2,()))) from ?_)) ?_
   ·by_cases hz:s.2.1.length=0
    ·have ht:knownV s.1 true=0:=by
      unfold knownV
      have h0:s.1.1.length=0:=by rw [←hv.stockLen];exact hz
      have:hasTruth s.1=true:=by unfold hasTruth;rw [h0];rfl
      simp [(errS_0 he).1,this]
     simp [hz,ht]
    ·have h1:decide (Int.ofNat (List.length s.2.1) > 0)=true:=by simp;omega
     have h2:isSpareV s.1 0=true:=by rw [isSpareV_iff];have:=hv.stockLen;omega
     rw [if_pos h1,M.req_true hs.1]
     unfold lengthV
     rw [h2]
     by_cases hk:knownV s.1 true=0
     ·simp [hk]
     ·simp [hk]
   by_cases hkn:knownV s.1 true=0
   ·simp only [hkn,ne_eq,not_true,if_false,M.bind_pure,M.go_next]
    have hn10:=hv.spares
    have hsl:=hv.stockLen
    have hmk:s.1.2.1.length≤6:=(wV_head hv.good.2).2.1
    rw [M.loop_listT (List.range s.2.1.length) (fun i t=>((s.2.1.length:Int),(i:Int),s,t,s.1.1,s.1.2.1,s.1.2.2.1,s.1.2.2.2,s.2.1,s.2.2.1,s.2.2.2.1,s.2.2.2.2.1,s.2.2.2.2.2,())) (fun i t=>.next (fitsM s.1 i t)) (fun t=>.next (s,t,s.1.1,s.1.2.1,s.1.2.2.1,s.1.2.2.2,s.2.1,s.2.2.1,s.2.2.2.1,s.2.2.2.2.1,s.2.2.2.2.2,())) [] ?_ ?_ ?_]
    ·rw [foldS_next]
     simp only [M.bind_pure,M.go_next]
     rw [M.loop_list (List.range s.2.1.length) (fun i acc=>(s.2.1,(s.2.1.length:Int),(i:Int),s,fitsA s.1 s.2.1.length,s.1.1,s.1.2.1,s.1.2.2.1,s.1.2.2.2,s.2.1,s.2.2.1,s.2.2.2.1,s.2.2.2.2.1,s.2.2.2.2.2,acc,())) (fun i acc=>.next (acc++repS ((i:Int),0) (s.2.1.getD i 0))) (fun acc=>.next (s,fitsA s.1 s.2.1.length,s.1.1,s.1.2.1,s.1.2.2.1,s.1.2.2.2,s.2.1,s.2.2.1,s.2.2.2.1,s.2.2.2.2.1,s.2.2.2.2.2,acc,())) (fun i acc=>acc.length≤10*i) [] ?_ ?_ ?_ ?_]
     ·rw [foldS_next,foldl_flat]
      simp only [M.bind_pure,M.go_next,List.nil_append]
      have hst:(stockSp s.2.1).length≤100:=by
       have:∀ (l:List Nat),(∀ i∈l,i<s.2.1.length)→(l.flatMap fun (i:Nat)=>repS ((i:Int),0) (s.2.1.getD i 0)).length≤10*l.length:=by
        intro l
        induction l with
        | nil=>simp
        | cons i l ih=>
         intro hl
         have h1:=ih fun j hj=>hl j (by simp [hj])
         have h2:=hl i (by simp)
         have h3:=hv.stock _ (List.getElem_mem h2)
         have eg:s.2.1.getD i 0=s.2.1[i]:=by simp [List.getD_eq_getElem?_getD,h2]
         rw [List.flatMap_cons,List.length_append,List.length_cons,eg]
         simp only [repS,List.length_replicate]
         simp only [repS] at h1
         omega
       have:=this (List.range s.2.1.length) (fun i hi=>by simpa using hi)
       rw [List.length_range] at this
       unfold stockSp
       omega
      rw [M.loop_list s.2.2.2.2.1 (fun i acc=>(s.2.2.2.2.1,(s.2.2.2.2.1.length:Int),(i:Int),fitsA s.1 s.2.1.length,s.1.1,s.1.2.1,s.1.2.2.1,s.1.2.2.2,s.2.1,s.2.2.1,s.2.2.2.1,s.2.2.2.2.1,s.2.2.2.2.2,acc,())) (fun d acc=>.next (acc++repS (d.2.1,d.1) d.2.2)) (fun acc=>.next (fitsA s.1 s.2.1.length,s.1.1,s.1.2.1,s.1.2.2.1,s.1.2.2.2,s.2.1,s.2.2.1,s.2.2.2.1,s.2.2.2.2.1,s.2.2.2.2.2,acc,())) (fun i acc=>acc.length≤100+10*i) (stockSp s.2.1) ?_ ?_ ?_ ?_]
      ·rw [foldS_next,foldl_flat,M.bind_pure,M.go_next]
       rfl
      ·rfl
      ·omega
      ·intro i hi acc hacc
       have hde:=hv.delivs
       have hwr:=wrap64 (n:=(i:Int)+1) (by omega) (by omega)
       have hd:=hv.deliv _ (List.getElem_mem hi)
       have hd2:1≤s.2.2.2.2.1[i].2.2∧s.2.2.2.2.1[i].2.2≤10:=by
        simp only [delivV,inR,Bool.and_eq_true,decide_eq_true_eq] at hd
        exact hd.2
       have hlen:(repS (s.2.2.2.2.1[i].2.1,s.2.2.2.2.1[i].1) s.2.2.2.2.1[i].2.2).length≤10:=by simp only [repS,List.length_replicate];omega
       have hll:lenLe (acc.length+(repS (s.2.2.2.2.1[i].2.1,s.2.2.2.2.1[i].1) s.2.2.2.2.1[i].2.2).length):=by unfold lenLe;omega
       refine ⟨?_,fun b' hb=>?_⟩
       ·simp only [ofNat_def,lt_len hi,if_true,getD_nat hi,in_len hi,M.req_True,M.safe_det,M.val_det,add_def,add_defN,hwr]
        rw [M.req_true (by exact ⟨rfl,Int.le_trans (by decide) hd2.1,Int.le_trans hd2.2 (by decide)⟩),M.req_true (by exact hll)]
        rfl
       ·cases hb
        simp only [List.length_append]
        omega
      ·intro acc hacc
       simp
     ·rfl
     ·simp
     ·intro i hi acc hacc
      have hi:i<s.2.1.length:=by simpa using hi
      have hwr:=wrap64 (n:=(i:Int)+1) (by omega) (by omega)
      have eg:s.2.1.getD i 0=s.2.1[i]:=by simp [List.getD_eq_getElem?_getD,hi]
      have hd2:=hv.stock _ (List.getElem_mem hi)
      have hlen:(repS ((i:Int),0) s.2.1[i]).length≤10:=by simp only [repS,List.length_replicate];omega
      have hll:lenLe (acc.length+(repS ((i:Int),0) s.2.1[i]).length):=by unfold lenLe;omega
      refine ⟨?_,fun b' hb=>?_⟩
      ·simp only [ofNat_def,lt_len hi,if_true,getD_nat hi,in_len hi,M.req_True,M.safe_det,M.val_det,add_def,add_defN,hwr,List.getElem_range,eg]
       rw [M.req_true (by exact ⟨rfl,hd2.1,Int.le_trans hd2.2 (by decide)⟩),M.req_true (by exact hll)]
       rfl
      ·cases hb
       simp only [List.getElem_range,eg,List.length_append]
       omega
     ·intro acc hacc
      simp
    ·simp
    ·intro i hi t
     have hi:i<s.2.1.length:=by simpa using hi
     have hwr:=wrap64 (n:=(i:Int)+1) (by omega) (by omega)
     simp only [ofNat_def,lt_len hi,if_true,List.getElem_range]
     rw [M.loop_listT (List.range s.1.2.1.length) (fun m t=>((i:Int),(s.2.1.length:Int),(i:Int),s.1.2.1,(s.1.2.1.length:Int),(m:Int),s,t,s.1.1,s.1.2.1,s.1.2.2.1,s.1.2.2.2,s.2.1,s.2.2.1,s.2.2.2.1,s.2.2.2.2.1,s.2.2.2.2.2,())) (fun m t=>.next (fitsK s.1 i m t)) (fun t=>.next ((s.2.1.length:Int),(i:Int),s,t,s.1.1,s.1.2.1,s.1.2.2.1,s.1.2.2.2,s.2.1,s.2.2.1,s.2.2.2.1,s.2.2.2.2.1,s.2.2.2.2.2,())) t ?_ ?_ ?_]
     ·rw [foldS_next]
      simp only [M.bind_pure,M.go_next,add_def,hwr]
      rfl
     ·rfl
     ·intro m hm t
      have hm:m<s.1.2.1.length:=by simpa using hm
      have hwm:=wrap64 (n:=(m:Int)+1) (by omega) (by omega)
      have esl:s.1.2.1[m]=slotsOfV s.1 (m:Int):=by simp [slotsOfV,List.getD_eq_getElem?_getD,hm]
      simp only [ofNat_def,lt_len hm,if_true,List.getElem_range,in_len hm,M.req_True,getD_nat hm,esl]
      have hsm:=slots_small hs.1 (m:Int)
      rw [M.loop_listT (List.range (slotsOfV s.1 (m:Int)).length) (fun k t=>((i:Int),(m:Int),(s.2.1.length:Int),(i:Int),s.1.2.1,(s.1.2.1.length:Int),(m:Int),((slotsOfV s.1 (m:Int)).length:Int),(k:Int),s,t,s.1.1,s.1.2.1,s.1.2.2.1,s.1.2.2.2,s.2.1,s.2.2.1,s.2.2.2.1,s.2.2.2.2.1,s.2.2.2.2.2,())) (fun k t=>.next (fitSt s.1 t ((i:Int),(m:Int),(k:Int)))) (fun t=>.next ((i:Int),(s.2.1.length:Int),(i:Int),s.1.2.1,(s.1.2.1.length:Int),(m:Int),s,t,s.1.1,s.1.2.1,s.1.2.2.1,s.1.2.2.2,s.2.1,s.2.2.1,s.2.2.2.1,s.2.2.2.2.1,s.2.2.2.2.2,())) t ?_ ?_ ?_]
      ·rw [foldS_next]
       simp only [M.bind_pure,M.go_next,add_def,hwm]
       rfl
      ·rfl
      ·intro k hk t
       have hk:k<(slotsOfV s.1 (m:Int)).length:=by simpa using hk
       have hwk:=wrap64 (n:=(k:Int)+1) (by omega) (by omega)
       have hsp:isSpareV s.1 (i:Int)=true:=by rw [isSpareV_iff];omega
       have hso:isSlotOfV s.1 (m:Int) (k:Int)=true:=by rw [isSlotOfV_iff];omega
       have hf:fitsR s.1 (i:Int) (m:Int) (k:Int)=(fitsV s.1 (i:Int) (m:Int) (k:Int),0):=by simp [fitsR,hsp,hso,hkn]
       simp only [lt_len hk,if_true,List.getElem_range]
       simp only [hf,M.req_true hs.1,decide_eq_true_eq]
       by_cases h1:fitsV s.1 (i:Int) (m:Int) (k:Int)=1
       ·simp only [h1,if_true,and_self,M.req_True,M.bind_pure,M.go_next,add_def,hwk,Step.mapN,fitSt]
        rfl
       ·simp only [h1,if_false,M.bind_pure,M.go_next,add_def,hwk,Step.mapN,fitSt]
        rfl
      ·intro t
       simp
     ·intro t
      simp
    ·intro t
     simp
   ·simp [hkn]
 ·simp [he]
theorem sOOpen (x):M.le (S_orders_open fcErrS.sh fcLength.sh fcFits.sh fcRepS.sh x) (fcOpenS.sh x):=M.le_det fun h=>eOOpen x.1 x.2 h
end Go.Fer
namespace Go.Fer
open M (Step)
set_option linter.unusedVariables false
set_option linter.unusedSimpArgs false
theorem risV_all {p:Int→Bool} {l:List Int} (h:risV p l=true):∀ x∈l,p x=true:=by
 intro x hx
 obtain ⟨i,hi,rfl⟩:=List.mem_iff_getElem.1 hx
 unfold risV at h
 rw [List.all_eq_true] at h
 have:=h i (by simpa using hi)
 rw [Bool.and_eq_true] at this
 have e:l.getD i 0=l[i]:=by simp [List.getD_eq_getElem?_getD,hi]
 rw [e] at this
 exact this.1
theorem risV_asc {p:Int→Bool} {l:List Int} (h:risV p l=true):l.Pairwise (·<·):=by
 unfold risV at h
 rw [List.all_eq_true] at h
 have step:∀ i,i+1<l.length→l.getD i 0<l.getD (i+1) 0:=fun i hi=>by
  have:=h (i+1) (by simpa using hi)
  simp only [Bool.and_eq_true,Bool.not_eq_true',Bool.and_eq_false_iff,decide_eq_false_iff_not,Nat.add_sub_cancel] at this
  rcases this.2 with h | h<;>omega
 have key:∀ j i,i<j→j<l.length→l.getD i 0<l.getD j 0:=by
  intro j
  induction j with
  | zero=>intro i h;omega
  | succ j ih=>
   intro i hij hj
   have h1:=step j hj
   by_cases e:i=j
   ·rw [e];exact h1
   ·have:=ih i (by omega) (by omega)
    omega
 rw [List.pairwise_iff_getElem]
 intro i j hi hj hij
 have:=key j i hij hj
 simpa [List.getD_eq_getElem?_getD,hi,hj] using this
theorem piece_broken {s:Shop} (hv:Val s) {p:Pc} (hp:p∈s.2.2.1):isMakeV s.1 p.2.2.2.1=true∧p.2.2.2.2.length≤4∧∀ k∈p.2.2.2.2,isSlotOfV s.1 p.2.2.2.1 k=true:=by
 have h:=hv.piece p hp
 simp only [pieceV,Bool.and_eq_true] at h
 obtain ⟨⟨_,hm⟩,hr⟩:=h
 have hall:∀ k∈p.2.2.2.2,isSlotOfV s.1 p.2.2.2.1 k=true:=fun k hk=>by
  have:=risV_all hr k hk
  rw [isSlotOfV_iff]
  simp only [brokV,Bool.and_eq_true,decide_eq_true_eq] at this
  exact ⟨isMakeV_iff.1 hm,this⟩
 refine ⟨hm,?_,hall⟩
 have hasc:=risV_asc hr
 have hnd:p.2.2.2.2.Nodup:=hasc.imp fun h e=>by omega
 cases hb:p.2.2.2.2 with
 | nil=>simp
 | cons k l=>
  rw [←hb]
  have h4:=wV_slots hv.good.2 (hall k (by rw [hb];simp))
  have:=nodup_bound (slotsOfV s.1 p.2.2.2.1).length p.2.2.2.2 hnd fun k hk=>by
   have:=isSlotOfV_iff.1 (hall k hk)
   exact this.2
  omega
abbrev Job:Type:=Int×Int×Int
abbrev dWi:Wi:=([],(0,0),0,0,0)
abbrev dPc:Pc:=(0,0,0,0,[])
abbrev dSto:Sto:=((([],[],0,[]),[],[],[],[],0),[],[])
def wishAt (s:Shop) (i:Int):Wi:=s.2.2.2.1.getD i.toNat dWi
def pieceAt (s:Shop) (i:Int):Pc:=s.2.2.1.getD i.toNat dPc
def dayOf (s:Shop) (x:Wi) (p:Pc):Option Int:=if suitV x p=0 then none else if (if suitV x p=2 then x.2.2.2.1 - s.2.2.2.2.2 else x.2.2.2.1)<0 then none else some (if suitV x p=2 then x.2.2.2.1 - s.2.2.2.2.2 else x.2.2.2.1)
def placeJobs (s:Shop) (plan:List Int) (i:Nat):Option (List Job):=if plan.getD i 0<0 then some [] else (dayOf s (wishAt s (i:Int)) (pieceAt s (plan.getD i 0))).map fun d=>(pieceAt s (plan.getD i 0)).2.2.2.2.map fun k=>((pieceAt s (plan.getD i 0)).2.2.2.1,k,d)
def jobsV (s:Shop) (plan:List Int):List Job×Bool:=if ((List.range plan.length).all fun i=>(placeJobs s plan i).isSome)=true then ((List.range plan.length).flatMap fun i=>(placeJobs s plan i).getD [],true) else ([],false)
def planOk (s:Shop) (plan:List Int):Prop:=plan.length≤s.2.2.2.1.length∧∀ p∈plan,p<(s.2.2.1.length:Int)
def shopOf (o:Option Sto):Shop:=(o.getD dSto).1
def isSto (o:Option Sto) (s:Shop):Prop:=o=some (stoV s)∧Val s
theorem wishAt_mem {s:Shop} {i:Nat} (h:i<s.2.2.2.1.length):wishAt s (i:Int)∈s.2.2.2.1:=by
 simp [wishAt,List.getD_eq_getElem?_getD,h]
theorem pieceAt_mem {s:Shop} {i:Int} (h0:0≤i) (h:i<(s.2.2.1.length:Int)):pieceAt s i∈s.2.2.1:=getD_mem h0 h
theorem wish_due {s:Shop} (hv:Val s) {x:Wi} (hx:x∈s.2.2.2.1):(0≤x.2.2.2.1∧x.2.2.2.1≤99)∧(0≤x.2.2.2.2∧x.2.2.2.2≤100000):=by
 have:=hv.wish x hx
 simp only [wishV,hundV,inR,Bool.and_eq_true,decide_eq_true_eq] at this
 exact ⟨this.1.2,this.2⟩
theorem place_len {s:Shop} (hv:Val s) {plan:List Int} (hp:planOk s plan) {i:Nat} (hi:i<plan.length) {l:List Job} (h:placeJobs s plan i=some l):l.length≤4:=by
 unfold placeJobs at h
 split at h
 ·cases h;simp
 ·rename_i hneg
  rw [Option.map_eq_some_iff] at h
  obtain ⟨d,_,rfl⟩:=h
  rw [List.length_map]
  have hm:plan.getD i 0∈plan:=by simp [List.getD_eq_getElem?_getD,hi]
  exact (piece_broken hv (pieceAt_mem (by omega) (hp.2 _ hm))).2.1
def optS {α β ρ:Type} (f:α→Option (List β)) (r:ρ) (x:α) (b:List β):Step (List β) ρ:=if (f x).isSome=true then .next (b++(f x).getD []) else .done r
theorem optS_some {α β ρ:Type} {f:α→Option (List β)} {r:ρ} {x:α} {b y:List β} (h:f x=some y):optS f r x b=.next (b++y):=by simp [optS,h]
theorem optS_none {α β ρ:Type} {f:α→Option (List β)} {r:ρ} {x:α} {b:List β} (h:f x=none):optS f r x b=.done r:=by simp [optS,h]
theorem foldS_opt {α β ρ:Type} {f:α→Option (List β)} {r:ρ} {fin:List β→ρ}:∀ (l:List α) (b:List β),foldS (optS f r) fin l b=if (l.all fun x=>(f x).isSome)=true then fin (b++l.flatMap fun x=>(f x).getD []) else r
 | [],b=>by simp [foldS]
 | x::l,b=>by
  simp only [foldS]
  cases h:f x with
  | none=>simp [optS_none h,h]
  | some y=>
   have:=foldS_opt (f:=f) (r:=r) (fin:=fin) l (b++y)
   simp only [optS_some h,List.all_cons,h,Option.isSome_some,Bool.true_and,List.flatMap_cons,Option.getD_some]
   rw [this,List.append_assoc]
abbrev tJb:Ty:=.st (.prod tI (.prod tI tI))
abbrev fcJobs8:FC:=⟨.prod tSto tInts,.prod (.slice tJb) tB,fun x=>∃ s,isSto x.1 s∧planOk s x.2,fun x=>jobsV (shopOf x.1) x.2⟩
theorem eOJobs (s:Shop) (hv:Val s) (plan:List Int) (hp:planOk s plan):S_orders_store_jobs fcSuit.sh (some (stoV s),plan)=M.pure (jobsV s plan):=by
 unfold S_orders_store_jobs
 have hw6:=hv.wishes
 have hlw:=hp.1
 simp only [Option.isSome_some,Option.getD_some,M.req_True]
 rw [M.loop_list (List.range plan.length) (fun i acc=>(some (stoV s),plan,(plan.length:Int),(i:Int),acc,())) (optS (placeJobs s plan) (.done ([],false))) (fun acc=>.next (acc,())) (fun i acc=>acc.length≤4*i) [] ?_ ?_ ?_ ?_]
 ·rw [foldS_opt]
  unfold jobsV
  by_cases h:((List.range plan.length).all fun i=>(placeJobs s plan i).isSome)=true
  ·simp [h]
  ·simp [h]
 ·rfl
 ·simp
 ·intro i hi acc hacc
  have hi:i<plan.length:=by simpa using hi
  have hiw:i<s.2.2.2.1.length:=by omega
  have hwr:=wrap64 (n:=(i:Int)+1) (by omega) (by omega)
  have hxm:=wishAt_mem hiw
  rw [List.getElem_range]
  obtain ⟨A,eA⟩:∃ A,plan.getD i 0=A:=⟨_,rfl⟩
  have hAm:A∈plan:=by rw [←eA];simp [List.getD_eq_getElem?_getD,hi]
  refine ⟨?_,fun b' hb=>?_⟩
  ·simp only [ofNat_def,lt_len hi,if_true,Int.toNat_natCast,eA,in_len hi,M.req_True,Option.isSome_some,Option.getD_some]
   by_cases hneg:A<0
   ·have hpj:placeJobs s plan i=some []:=by unfold placeJobs;rw [eA,if_pos hneg]
    rw [optS_some hpj]
    simp only [hneg,decide_true,if_true,M.bind_pure,M.go_next,add_def,hwr,Step.mapN,List.append_nil,Int.natCast_add,Int.natCast_one]
   ·have hA:A<(s.2.2.1.length:Int):=hp.2 A hAm
    have hpm:=pieceAt_mem (s:=s) (by omega) hA
    have hr1:0≤A∧A<(s.2.2.1.length:Int):=⟨by omega,hA⟩
    have hst:(stoV s).1=s:=rfl
    have ewi:List.getD s.2.2.2.1 i ([],(0,0),0,0,0)=wishAt s (i:Int):=rfl
    have epc:List.getD s.2.2.1 A.toNat (0,0,0,0,[])=pieceAt s A:=rfl
    simp only [hneg,decide_false,Bool.false_eq_true,if_false,hst,in_len hiw,M.req_true hr1,M.req_True,FC.sh,M.bind_det,ewi,epc]
    have hpj:placeJobs s plan i=(dayOf s (wishAt s (i:Int)) (pieceAt s A)).map fun d=>(pieceAt s A).2.2.2.2.map fun k=>((pieceAt s A).2.2.2.1,k,d):=by unfold placeJobs;rw [eA,if_neg hneg]
    rw [M.req_true (show fcSuit.pre (wishAt s (i:Int),pieceAt s A) from hv.small.2.2.2.2.2.2 _ hxm)]
    obtain ⟨hdue,_⟩:=wish_due hv hxm
    have hcv:=hv.carve
    obtain ⟨hmk,hbl,hbs⟩:=piece_broken hv hpm
    have hwd:=wrap64 (n:=(wishAt s (i:Int)).2.2.2.1 - s.2.2.2.2.2) (by omega) (by omega)
    generalize wishAt s (i:Int)=x at *
    generalize pieceAt s A=p at *
    by_cases h0:suitV x p=0
    ·have hd:dayOf s x p=none:=by unfold dayOf;rw [if_pos h0]
     rw [hd] at hpj
     rw [optS_none hpj]
     simp only [h0,decide_true,if_true,M.bind_pure,M.go_done,Step.mapN]
    ·by_cases h2:suitV x p=2
     all_goals simp only [h0,h2,decide_true,decide_false,Bool.false_eq_true,if_false,if_true,M.bind_pure,M.go_next,hwd,Int.reduceEq]
     ·have hd:dayOf s x p=(if x.2.2.2.1 - s.2.2.2.2.2<0 then none else some (x.2.2.2.1 - s.2.2.2.2.2)):=by unfold dayOf;rw [if_neg h0,if_pos h2]
      generalize x.2.2.2.1 - s.2.2.2.2.2=d at *
      by_cases hd0:d<0
      ·rw [if_pos hd0] at hd
       rw [hd] at hpj
       rw [optS_none hpj]
       simp only [hd0,decide_true,if_true,M.bind_pure,M.go_done,Step.mapN]
      ·rw [if_neg hd0] at hd
       rw [hd] at hpj
       rw [optS_some hpj]
       simp only [hd0,decide_false,Bool.false_eq_true,if_false]
       rw [M.loop_list p.2.2.2.2 (fun k acc=>(some (stoV s),d,plan,(plan.length:Int),(i:Int),p.2.2.2.2,(p.2.2.2.2.length:Int),(k:Int),acc,p,())) (fun k acc=>.next (acc++[(p.2.2.2.1,k,d)])) (fun acc=>.next (some (stoV s),plan,(plan.length:Int),(i:Int),acc,())) (fun k acc'=>acc'.length≤4*i+k) acc ?_ ?_ ?_ ?_]
       ·rw [foldS_next,foldl_map_app]
        simp only [M.bind_pure,M.go_next,add_def,hwr,Step.mapN,Int.natCast_add,Int.natCast_one]
       ·rfl
       ·omega
       ·intro k hk acc' hacc'
        have hwk:=wrap64 (n:=(k:Int)+1) (by omega) (by omega)
        have hll:lenLe (acc'.length+(0+1)):=by unfold lenLe;omega
        refine ⟨?_,fun b' hb=>?_⟩
        ·simp only [lt_len hk,if_true,getD_nat hk,in_len hk,M.req_True,add_def,add_defN,M.req_true hll,hwk]
         rfl
        ·cases hb
         simp only [List.length_append,List.length_singleton]
         omega
       ·intro acc' _
        simp
     ·have hd:dayOf s x p=(if x.2.2.2.1<0 then none else some x.2.2.2.1):=by unfold dayOf;rw [if_neg h0,if_neg h2]
      generalize x.2.2.2.1=d at *
      by_cases hd0:d<0
      ·rw [if_pos hd0] at hd
       rw [hd] at hpj
       rw [optS_none hpj]
       simp only [hd0,decide_true,if_true,M.bind_pure,M.go_done,Step.mapN]
      ·rw [if_neg hd0] at hd
       rw [hd] at hpj
       rw [optS_some hpj]
       simp only [hd0,decide_false,Bool.false_eq_true,if_false]
       rw [M.loop_list p.2.2.2.2 (fun k acc=>(some (stoV s),d,plan,(plan.length:Int),(i:Int),p.2.2.2.2,(p.2.2.2.2.length:Int),(k:Int),acc,p,())) (fun k acc=>.next (acc++[(p.2.2.2.1,k,d)])) (fun acc=>.next (some (stoV s),plan,(plan.length:Int),(i:Int),acc,())) (fun k acc'=>acc'.length≤4*i+k) acc ?_ ?_ ?_ ?_]
       ·rw [foldS_next,foldl_map_app]
        simp only [M.bind_pure,M.go_next,add_def,hwr,Step.mapN,Int.natCast_add,Int.natCast_one]
       ·rfl
       ·omega
       ·intro k hk acc' hacc'
        have hwk:=wrap64 (n:=(k:Int)+1) (by omega) (by omega)
        have hll:lenLe (acc'.length+(0+1)):=by unfold lenLe;omega
        refine ⟨?_,fun b' hb=>?_⟩
        ·simp only [lt_len hk,if_true,getD_nat hk,in_len hk,M.req_True,add_def,add_defN,M.req_true hll,hwk]
         rfl
        ·cases hb
         simp only [List.length_append,List.length_singleton]
         omega
       ·intro acc' _
        simp
  ·cases hpj:placeJobs s plan i with
   | none=>rw [optS_none hpj] at hb;cases hb
   | some y=>
    rw [optS_some hpj] at hb
    cases hb
    have:=place_len hv hp hi hpj
    rw [List.length_append]
    omega
 ·intro acc hacc
  simp
theorem sOJobs (x):M.le (S_orders_store_jobs fcSuit.sh x) (fcJobs8.sh x):=M.le_det fun h=>by
 obtain ⟨o,plan⟩:=x
 obtain ⟨s,⟨hf,hv⟩,hp⟩:=h
 change o=_ at hf
 subst hf
 exact eOJobs s hv plan hp
def takV (s:Shop) (plan:List Int):Int:=((List.range plan.length).map fun (i:Nat)=>if plan.getD i 0=-1 then 0 else (wishAt s (i:Int)).2.2.2.2).foldl (·+·) 0
abbrev fcTak:FC:=⟨.prod tSto tInts,tI,fun x=>∃ s,isSto x.1 s∧x.2.length≤s.2.2.2.1.length,fun x=>takV (shopOf x.1) x.2⟩
theorem eOTak (s:Shop) (hv:Val s) (plan:List Int) (hp:plan.length≤s.2.2.2.1.length):S_orders_store_takings (some (stoV s),plan)=M.pure (takV s plan):=by
 unfold S_orders_store_takings
 have hw6:=hv.wishes
 rw [M.loop_list (List.range plan.length) (fun i (n:Int)=>(some (stoV s),n,plan,(plan.length:Int),(i:Int),())) (fun (i:Nat) n=>.next (n+if plan.getD i 0=-1 then 0 else (wishAt s (i:Int)).2.2.2.2)) (fun n=>.next (n,())) (fun i n=>0≤n∧n≤100000*i) 0 ?_ ?_ ?_ ?_]
 ·rw [foldS_next]
  unfold takV
  rw [List.foldl_map,M.bind_pure,M.go_next]
 ·rfl
 ·simp
 ·intro i hi n hn
  have hi:i<plan.length:=by simpa using hi
  have hiw:i<s.2.2.2.1.length:=by omega
  have hwr:=wrap64 (n:=(i:Int)+1) (by omega) (by omega)
  obtain ⟨_,hpr⟩:=wish_due hv (wishAt_mem hiw)
  have ewi:List.getD s.2.2.2.1 i ([],(0,0),0,0,0)=wishAt s (i:Int):=rfl
  have hwn:=wrap64 (n:=n+(wishAt s (i:Int)).2.2.2.2) (by omega) (by omega)
  have hst:(stoV s).1=s:=rfl
  rw [List.getElem_range]
  refine ⟨?_,fun b' hb=>?_⟩
  ·simp only [ofNat_def,lt_len hi,if_true,Int.toNat_natCast,in_len hi,in_len hiw,M.req_True,Option.isSome_some,Option.getD_some,add_def,hst,ewi]
   by_cases h1:plan.getD i 0=-1
   ·simp only [h1,ne_eq,not_true,decide_false,Bool.false_eq_true,if_false,if_true,M.bind_pure,M.go_next,hwr,Int.add_zero,Step.mapN]
    rfl
   ·simp only [h1,ne_eq,not_false_iff,decide_true,if_false,if_true,in_len hiw,M.req_True,M.bind_pure,M.go_next,hwr,hwn,Step.mapN]
    rfl
  ·cases hb
   split<;>omega
 ·intro n hn
  simp
theorem sOTak (x):M.le (S_orders_store_takings x) (fcTak.sh x):=M.le_det fun h=>by
 obtain ⟨o,plan⟩:=x
 obtain ⟨s,⟨hf,hv⟩,hp⟩:=h
 change o=_ at hf
 subst hf
 exact eOTak s hv plan hp
end Go.Fer
namespace Go.Fer
open M (Step)
set_option linter.unusedVariables false
set_option linter.unusedSimpArgs false
theorem asc_unique:∀ {a b:List Int},a.Pairwise (·<·)→b.Pairwise (·<·)→(∀ x,x∈a↔x∈b)→a=b
 | [],[],_,_,_=>rfl
 | [],y::b,_,_,h=>by have:=(h y).2 (by simp);cases this
 | x::a,[],_,_,h=>by have:=(h x).1 (by simp);cases this
 | x::a,y::b,ha,hb,h=>by
  rw [List.pairwise_cons] at ha hb
  have hxy:x=y:=by
   have h1:=(h x).1 (by simp)
   have h2:=(h y).2 (by simp)
   rcases List.mem_cons.1 h1 with e | h1
   ·exact e
   ·rcases List.mem_cons.1 h2 with e | h2
    ·exact e.symm
    ·have:=hb.1 x h1
     have:=ha.1 y h2
     omega
  subst hxy
  rw [asc_unique ha.2 hb.2 fun z=>?_]
  constructor
  ·intro hz
   have:=ha.1 z hz
   rcases List.mem_cons.1 ((h z).1 (List.mem_cons_of_mem _ hz)) with e | h
   ·omega
   ·exact h
  ·intro hz
   have:=hb.1 z hz
   rcases List.mem_cons.1 ((h z).2 (List.mem_cons_of_mem _ hz)) with e | h
   ·omega
   ·exact h
end Go.Fer
namespace Go.Fer
open M (Step)
set_option linter.unusedVariables false
set_option linter.unusedSimpArgs false
def mostL:List (List Int)→List Int→Int
 | [],_=>0
 | j::jobs,stock=>j.foldl (fun n s=>if decide (stock.getD s.toNat 0 > 0)=true then (if 1+mostL jobs (stock.set s.toNat (stock.getD s.toNat 0 - 1)) > n then 1+mostL jobs (stock.set s.toNat (stock.getD s.toNat 0 - 1)) else n) else n) (mostL jobs stock)
theorem foldl_bound {f:Int→Int→Int} {a b:Int}:∀ (l:List Int) (n:Int),a≤n∧n≤b→(∀ n s,a≤n∧n≤b→a≤f n s∧f n s≤b)→a≤l.foldl f n∧l.foldl f n≤b
 | [],n,h,_=>h
 | x::l,n,h,hf=>foldl_bound l _ (hf n x h) hf
theorem mostL_bound:∀ (jobs:List (List Int)) (stock:List Int),0≤mostL jobs stock∧mostL jobs stock≤(jobs.length:Int)
 | [],_=>by simp [mostL]
 | j::jobs,stock=>by
  unfold mostL
  refine foldl_bound j _ ?_ fun n s h=>?_
  ·have:=mostL_bound jobs stock
   simp only [List.length_cons]
   omega
  ·have:=mostL_bound jobs (stock.set s.toNat (stock.getD s.toNat 0 - 1))
   simp only [List.length_cons] at h ⊢
   split
   ·split<;>omega
   ·exact h
end Go.Fer
namespace Go.Fer
open M (Step)
set_option linter.unusedVariables false
set_option linter.unusedSimpArgs false
theorem range_getD {α:Type} (l:List α) (d:α):(List.range l.length).map (fun j=>l.getD j d)=l:=by
 refine List.ext_getElem (by simp) fun i h1 h2=>?_
 simp [List.getD_eq_getElem?_getD,List.getElem?_eq_getElem h2]
theorem countP_getD {α:Type} (p:α→Bool) (l:List α) (d:α):(List.range l.length).countP (fun j=>p (l.getD j d))=l.countP p:=by
 have:=congrArg (List.countP p) (range_getD l d)
 rw [List.countP_map] at this
 exact this
theorem holdV_count (work:List Int) (s:Int):(holdV work s).length=(List.range work.length).countP fun j=>decide (work.getD j 0=s):=by
 unfold holdV
 rw [List.length_map,List.countP_eq_length_filter]
theorem holdV_count' (work:List Int) (s:Int):(holdV work s).length=work.countP fun x=>decide (x=s):=by
 rw [holdV_count,countP_getD (fun x=>decide (x=s))]
theorem getD_set' {l:List Int} {j i:Nat} {s:Int} (hj:j<l.length):(l.set j s).getD i 0=if i=j then s else l.getD i 0:=by
 rw [List.getD_eq_getElem?_getD,List.getD_eq_getElem?_getD,List.getElem?_set]
 by_cases e:j=i
 ·subst e;simp [hj]
 ·rw [if_neg e,if_neg fun h:i=j=>e h.symm]
abbrev fitOf (fit:List (List Int)) (j:Int):List Int:=fit.getD j.toNat []
def FullS (stock work:List Int) (s:Int):Prop:=stock.getD s.toNat 0≤((holdV work s).length:Int)
def ClosedJ (fit:List (List Int)) (stock work:List Int) (C:Int→Prop):Prop:=∀ j,C j→∀ s∈fitOf fit j,FullS stock work s∧∀ h∈holdV work s,C h
def ValidW (n:Nat) (stock work:List Int):Prop:=∀ s,0≤s→s<(n:Int)→((holdV work s).length:Int)≤stock.getD s.toNat 0
end Go.Fer
namespace Go.Fer
open M (Step)
set_option linter.unusedVariables false
set_option linter.unusedSimpArgs false
def rsum:Nat→(Nat→Int)→Int
 | 0,_=>0
 | n+1,f=>rsum n f+f n
theorem rsum_congr {f g:Nat→Int}:∀ {n:Nat},(∀ i,i<n→f i=g i)→rsum n f=rsum n g
 | 0,_=>rfl
 | n+1,h=>by
  show rsum n f+f n=rsum n g+g n
  rw [rsum_congr (n:=n) fun i hi=>h i (by omega),h n (by omega)]
theorem rsum_le {f g:Nat→Int}:∀ {n:Nat},(∀ i,i<n→f i≤g i)→rsum n f≤rsum n g
 | 0,_=>Int.le_refl _
 | n+1,h=>by
  show rsum n f+f n≤rsum n g+g n
  have a:=rsum_le (n:=n) fun i hi=>h i (by omega)
  have b:=h n (by omega)
  omega
theorem rsum_zero:∀ {n:Nat},rsum n (fun _=>0)=0
 | 0=>rfl
 | n+1=>by show rsum n (fun _=>0)+0=0;rw [rsum_zero];rfl
theorem rsum_nonneg {f:Nat→Int} {n:Nat} (h:∀ i,i<n→0≤f i):0≤rsum n f:=by
 have:=rsum_le (f:=fun _=>0) (g:=f) (n:=n) h
 rw [rsum_zero] at this
 exact this
theorem rsum_upd {f g:Nat→Int} {k:Nat}:∀ {n:Nat},k<n→(∀ i,i<n→i≠k→f i=g i)→rsum n f=rsum n g+(f k - g k)
 | 0,h,_=>by omega
 | n+1,hk,h=>by
  show rsum n f+f n=rsum n g+g n+_
  by_cases e:k=n
  ·subst e
   rw [rsum_congr (g:=g) fun i hi=>h i (by omega) (by omega)]
   omega
  ·rw [rsum_upd (n:=n) (by omega) fun i hi=>h i (by omega),h n (by omega) (fun x=>e x.symm)]
   omega
theorem countP_split {α:Type} {p q r:α→Bool}:∀ {l:List α},(∀ x∈l,(if p x=true then 1 else 0)=(if q x=true then 1 else 0)+(if r x=true then 1 else (0:Nat)))→l.countP p=l.countP q+l.countP r
 | [],_=>rfl
 | x::l,h=>by
  rw [List.countP_cons,List.countP_cons,List.countP_cons,countP_split (l:=l) fun y hy=>h y (List.mem_cons_of_mem _ hy)]
  have:=h x (by simp)
  omega
theorem rsum_count (N:Nat→Bool) (work:List Int):∀ n,rsum n (fun i=>if N i=true then ((work.countP fun x=>decide (x=(i:Int)):Nat):Int) else 0)=((work.countP fun x=>decide (0≤x)&&decide (x<(n:Int))&&N x.toNat:Nat):Int)
 | 0=>by
  symm
  show ((_:Nat):Int)=0
  have:(work.countP fun x=>decide (0≤x)&&decide (x<((0:Nat):Int))&&N x.toNat)=0:=by
   rw [List.countP_eq_zero]
   intro x _
   by_cases h:0≤x
   ·have:¬x<0:=by omega
    simp [this]
   ·simp [h]
  rw [this];rfl
 | n+1=>by
  show rsum n _+(if N n=true then ((work.countP fun x=>decide (x=(n:Int)):Nat):Int) else 0)=_
  rw [rsum_count N work n]
  by_cases hN:N n=true
  ·rw [if_pos hN]
   rw [countP_split (p:=fun x=>decide (0≤x)&&decide (x<((n+1:Nat):Int))&&N x.toNat) (q:=fun x=>decide (0≤x)&&decide (x<(n:Int))&&N x.toNat) (r:=fun x=>decide (x=(n:Int))) (l:=work) fun x _=>?_]
   ·omega
   ·by_cases e:x=(n:Int)
    ·subst e
     have h1:¬(n:Int)<(n:Int):=by omega
     have h2:(n:Int)<((n+1:Nat):Int):=by omega
     have h3:(0:Int)≤(n:Int):=by omega
     simp only [h1,h2,h3,hN,Int.toNat_natCast,decide_true,decide_false,Bool.and_true,Bool.and_false,Bool.false_and]
     rfl
    ·have h1:decide (x<((n+1:Nat):Int))=decide (x<(n:Int)):=by rw [decide_eq_decide];omega
     simp only [e,h1,decide_false]
     simp
  ·rw [if_neg hN,Int.add_zero]
   congr 1
   refine List.countP_congr fun x _=>?_
   by_cases e:x=(n:Int)
   ·subst e
    simp only [Int.toNat_natCast,hN]
    simp
   ·have h1:decide (x<((n+1:Nat):Int))=decide (x<(n:Int)):=by rw [decide_eq_decide];omega
    rw [h1]
theorem foldl_infl {f:Int→Int→Int} (h:∀ n s,n≤f n s):∀ (l:List Int) (n:Int),n≤l.foldl f n
 | [],n=>Int.le_refl _
 | x::l,n=>Int.le_trans (h n x) (foldl_infl h l _)
theorem foldl_ge {f:Int→Int→Int} (h:∀ n s,n≤f n s) {v s:Int} (hv:∀ n,v≤f n s):∀ {l:List Int} (n:Int),s∈l→v≤l.foldl f n
 | [],_,hs=>by cases hs
 | x::l,n,hs=>by
  rcases List.mem_cons.1 hs with e | e
  ·subst e;exact Int.le_trans (hv n) (foldl_infl h l _)
  ·exact foldl_ge (l:=l) h hv (f n x) e
theorem foldl_le {f:Int→Int→Int} {B:Int}:∀ {l:List Int} {n:Int},n≤B→(∀ n s,s∈l→n≤B→f n s≤B)→l.foldl f n≤B
 | [],n,h,_=>h
 | x::l,n,h,hf=>foldl_le (l:=l) (hf n x (by simp) h) fun n s hs=>hf n s (List.mem_cons_of_mem _ hs)
theorem mostL_ge0 (j:List Int) (jobs:List (List Int)) (stock:List Int):mostL jobs stock≤mostL (j::jobs) stock:=by
 rw [mostL]
 refine foldl_infl (fun n s=>?_) j _
 split
 ·split<;>omega
 ·omega
theorem mostL_geS {j:List Int} (jobs:List (List Int)) {stock:List Int} {s:Int} (hs:s∈j) (h:stock.getD s.toNat 0 > 0):1+mostL jobs (stock.set s.toNat (stock.getD s.toNat 0 - 1))≤mostL (j::jobs) stock:=by
 rw [mostL]
 refine foldl_ge (fun n s=>?_) (fun n=>?_) _ hs
 ·split
  ·split<;>omega
  ·omega
 ·rw [if_pos (by simpa using h)]
  split<;>omega
theorem mostL_le {j:List Int} {jobs:List (List Int)} {stock:List Int} {B:Int} (h:mostL jobs stock≤B) (hs:∀ s∈j,stock.getD s.toNat 0 > 0→1+mostL jobs (stock.set s.toNat (stock.getD s.toNat 0 - 1))≤B):mostL (j::jobs) stock≤B:=by
 rw [mostL]
 refine foldl_le h fun n s hm hn=>?_
 split
 ·rename_i hc
  have:=hs s hm (by simpa using hc)
  split<;>omega
 ·exact hn
theorem mostL_served:∀ (fit:List (List Int)) (work stock:List Int),work.length=fit.length→(∀ i:Nat,i<fit.length→work.getD i 0=-1∨work.getD i 0∈fit.getD i [])→(∀ l∈fit,∀ s∈l,0≤s∧s<(stock.length:Int))→
  (∀ s:Int,0≤s→s<(stock.length:Int)→((work.countP fun x=>decide (x=s):Nat):Int)≤stock.getD s.toNat 0)→((work.countP fun x=>!decide (x=-1):Nat):Int)≤mostL fit stock
 | [],work,stock,hl,_,_,_=>by
  have:work=[]:=List.length_eq_zero_iff.1 hl
  subst this
  simp [mostL]
 | j::fit,[],stock,hl,_,_,_=>by simp at hl
 | j::fit,a::work,stock,hl,hm,hf,hv=>by
  have hl':work.length=fit.length:=by simpa using hl
  have hm':∀ i:Nat,i<fit.length→work.getD i 0=-1∨work.getD i 0∈fit.getD i []:=fun i hi=>by
   have:=hm (i+1) (by simp only [List.length_cons];omega)
   simpa using this
  have h0:=hm 0 (by simp)
  change a=-1∨a∈j at h0
  by_cases e:a=-1
  ·subst e
   have ih:=mostL_served fit work stock hl' hm' (fun l h=>hf l (List.mem_cons_of_mem _ h)) fun s h1 h2=>by
    have:=hv s h1 h2
    rw [List.countP_cons] at this
    omega
   rw [List.countP_cons]
   simp only [decide_true,Bool.not_true,Bool.false_eq_true,if_false,Nat.add_zero]
   exact Int.le_trans ih (mostL_ge0 _ _ _)
  ·have ha:a∈j:=h0.resolve_left e
   obtain ⟨a0,an⟩:=hf j (by simp) a ha
   have hva:=hv a a0 an
   rw [List.countP_cons] at hva
   simp only [decide_true,if_true] at hva
   have hsl:a.toNat<stock.length:=by omega
   have ih:=mostL_served fit work (stock.set a.toNat (stock.getD a.toNat 0 - 1)) hl' hm' (fun l h=>by rw [List.length_set];exact hf l (List.mem_cons_of_mem _ h)) fun s h1 h2=>by
    rw [List.length_set] at h2
    rw [getD_set' hsl]
    split
    ·rename_i e
     have:s=a:=by omega
     subst this
     omega
    ·rename_i e
     have hne:s≠a:=fun x=>e (by rw [x])
     have:=hv s h1 h2
     rw [List.countP_cons,if_neg (by simpa using fun x=>hne x.symm)] at this
     omega
   have:=mostL_geS fit ha (stock:=stock) (by omega)
   rw [List.countP_cons]
   simp only [e,decide_false,Bool.not_false,if_true]
   omega
def cutS (N:Nat→Bool) (stock:List Int):Int:=rsum stock.length fun i=>if N i=true then stock.getD i 0 else 0
def outN (N:Nat→Bool) (fit:List (List Int)):Nat:=fit.countP fun l=>!(l.all fun s=>N s.toNat)
theorem mostL_cut (N:Nat→Bool):∀ (fit:List (List Int)) (stock:List Int),(∀ l∈fit,∀ s∈l,0≤s∧s<(stock.length:Int))→(∀ i,i<stock.length→0≤stock.getD i 0)→mostL fit stock≤cutS N stock+(outN N fit:Int)
 | [],stock,_,h0=>by
  have:0≤cutS N stock:=rsum_nonneg fun i hi=>by
   have:=h0 i hi
   split<;>omega
  simp only [mostL,outN,List.countP_nil]
  omega
 | j::fit,stock,hf,h0=>by
  have ih:=mostL_cut N fit stock (fun l h=>hf l (List.mem_cons_of_mem _ h)) h0
  have ho:outN N (j::fit)=outN N fit+if (!(j.all fun s=>N s.toNat))=true then 1 else 0:=by unfold outN;rw [List.countP_cons]
  refine mostL_le (by rw [ho];omega) fun s hs hp=>?_
  obtain ⟨s0,sn⟩:=hf j (by simp) s hs
  have hsl:s.toNat<stock.length:=by omega
  have ih':=mostL_cut N fit (stock.set s.toNat (stock.getD s.toNat 0 - 1)) (fun l h=>by rw [List.length_set];exact hf l (List.mem_cons_of_mem _ h)) fun i hi=>by
   rw [List.length_set] at hi
   rw [getD_set' hsl]
   have:=h0 i hi
   split<;>omega
  have hc:cutS N (stock.set s.toNat (stock.getD s.toNat 0 - 1))=cutS N stock+(if N s.toNat=true then -1 else 0):=by
   unfold cutS
   rw [List.length_set,rsum_upd (k:=s.toNat) (g:=fun i=>if N i=true then stock.getD i 0 else 0) hsl fun i hi hne=>by simp only [getD_set' hsl,if_neg hne]]
   simp only [getD_set' hsl,if_true]
   split<;>omega
  rw [hc] at ih'
  rw [ho]
  by_cases hN:N s.toNat=true
  ·rw [if_pos hN] at ih';omega
  ·rw [if_neg hN] at ih'
   have:(!(j.all fun s=>N s.toNat))=true:=by
    rw [Bool.not_eq_true',←Bool.not_eq_true,List.all_eq_true]
    exact fun h=>hN (h s hs)
   rw [if_pos this]
   omega
def nbr (fit:List (List Int)) (some:List Int) (i:Nat):Bool:=some.any fun k=>(fitOf fit k).contains (i:Int)
def lacksV (fit:List (List Int)) (stock some:List Int):Int:=(some.length:Int) - cutS (nbr fit some) stock
def jobsOk (J:Nat) (some:List Int):Prop:=some.Pairwise (·<·)∧∀ k∈some,0≤k∧k<(J:Int)
theorem filt_asc (p:Nat→Bool) (n:Nat):(((List.range n).filter p).map fun (i:Nat)=>(i:Int)).Pairwise (·<·):=
 List.Pairwise.map _ (fun a b (h:a<b)=>by omega) (List.pairwise_lt_range.filter p)
theorem mem_filt {p:Nat→Bool} {n:Nat} {x:Int}:x∈(((List.range n).filter p).map fun (i:Nat)=>(i:Int))↔0≤x∧x<(n:Int)∧p x.toNat=true:=by
 simp only [List.mem_map,List.mem_filter,List.mem_range]
 constructor
 ·rintro ⟨i,⟨h1,h2⟩,rfl⟩;exact ⟨by omega,by omega,by simpa using h2⟩
 ·rintro ⟨h1,h2,h3⟩;exact ⟨x.toNat,⟨by omega,h3⟩,by omega⟩
theorem jobs_count {J:Nat} {some:List Int} (h:jobsOk J some):some.length=(List.range J).countP fun (j:Nat)=>some.contains (j:Int):=by
 have:some=((List.range J).filter fun (j:Nat)=>some.contains (j:Int)).map fun (i:Nat)=>(i:Int):=by
  refine asc_unique h.1 (filt_asc _ _) fun x=>?_
  rw [mem_filt,List.contains_iff_mem]
  constructor
  ·intro hx
   have:=h.2 x hx
   exact ⟨this.1,this.2,by rw [Int.toNat_of_nonneg this.1];exact hx⟩
  ·rintro ⟨h1,h2,h3⟩
   rw [Int.toNat_of_nonneg h1] at h3
   exact h3
 have h2:=congrArg List.length this
 rw [List.length_map,←List.countP_eq_length_filter] at h2
 exact h2
theorem nbr_of {fit:List (List Int)} {some:List Int} {k s:Int} (hk:k∈some) (hs:s∈fitOf fit k) (h0:0≤s):nbr fit some s.toNat=true:=by
 unfold nbr
 rw [List.any_eq_true]
 exact ⟨k,hk,by rw [List.contains_iff_mem,Int.toNat_of_nonneg h0];exact hs⟩
theorem lacks_out {fit:List (List Int)} {m:Nat} {some:List Int} (hf:∀ l∈fit,∀ s∈l,0≤s∧s<(m:Int)) (h:jobsOk fit.length some):outN (nbr fit some) fit+some.length≤fit.length:=by
 rw [jobs_count h]
 unfold outN
 have h3:=List.length_eq_countP_add_countP (l:=fit) fun l=>!(l.all fun s=>nbr fit some s.toNat)
 have h4:((List.range fit.length).countP fun (j:Nat)=>some.contains (j:Int))≤fit.countP fun a=>decide (¬(!(a.all fun s=>nbr fit some s.toNat))=true):=by
  rw [←countP_getD (fun a=>decide (¬(!(a.all fun s=>nbr fit some s.toNat))=true)) fit []]
  refine List.countP_mono_left fun i hi hc=>?_
  rw [List.contains_iff_mem] at hc
  have:((fit.getD i []).all fun s=>nbr fit some s.toNat)=true:=by
   rw [List.all_eq_true]
   intro s hs
   have hi:=List.mem_range.1 hi
   have hm:fit.getD i []∈fit:=by rw [List.getD_eq_getElem?_getD,List.getElem?_eq_getElem hi];exact List.getElem_mem hi
   exact nbr_of (k:=(i:Int)) hc (by unfold fitOf;rw [Int.toNat_natCast];exact hs) (hf _ hm s hs).1
  rw [this];rfl
 omega
theorem lacks_le {fit:List (List Int)} {stock some:List Int} (hf:∀ l∈fit,∀ s∈l,0≤s∧s<(stock.length:Int)) (h0:∀ i,i<stock.length→0≤stock.getD i 0) (h:jobsOk fit.length some):mostL fit stock≤(fit.length:Int) - lacksV fit stock some:=by
 have h1:=mostL_cut (nbr fit some) fit stock hf h0
 have h2:=lacks_out hf h
 unfold lacksV
 omega
theorem lacks_eq {n:Nat} {fit:List (List Int)} {stock work some:List Int} (hf:∀ l∈fit,∀ s∈l,0≤s∧s<(stock.length:Int)) (hl:work.length=fit.length) (hs:stock.length=n) (hv:ValidW n stock work)
  (hm:∀ i:Nat,i<fit.length→work.getD i 0=-1∨work.getD i 0∈fitOf fit (i:Int)) (h:jobsOk fit.length some) (hu:∀ i:Nat,i<fit.length→work.getD i 0=-1→(i:Int)∈some)
  (hc:ClosedJ fit stock work fun j=>j∈some):lacksV fit stock some=((holdV work (-1)).length:Int):=by
 have hfit:∀ k s,s∈fitOf fit k→0≤s∧s<(n:Int):=fun k s hks=>by
  by_cases hk:k.toNat<fit.length
  ·have hm:fitOf fit k∈fit:=by unfold fitOf;rw [List.getD_eq_getElem?_getD,List.getElem?_eq_getElem hk];exact List.getElem_mem hk
   rw [←hs];exact hf _ hm s hks
  ·unfold fitOf at hks
   rw [List.getD_eq_getElem?_getD,List.getElem?_eq_none (by omega)] at hks
   cases hks
 have h1:cutS (nbr fit some) stock=rsum n fun i=>if nbr fit some i=true then ((work.countP fun x=>decide (x=(i:Int)):Nat):Int) else 0:=by
  unfold cutS
  rw [hs]
  refine rsum_congr fun i hi=>?_
  by_cases hN:nbr fit some i=true
  ·rw [if_pos hN,if_pos hN,←holdV_count']
   have hN':=hN
   unfold nbr at hN'
   rw [List.any_eq_true] at hN'
   obtain ⟨k,hk,hik⟩:=hN'
   rw [List.contains_iff_mem] at hik
   have a:=(hc k hk _ hik).1
   have b:=hv (i:Int) (by omega) (by omega)
   unfold FullS at a
   rw [Int.toNat_natCast] at a b
   omega
  ·rw [if_neg hN,if_neg hN]
 unfold lacksV
 rw [h1,rsum_count,jobs_count h,holdV_count]
 rw [←countP_getD (fun x=>decide (0≤x)&&decide (x<(n:Int))&&nbr fit some x.toNat) work 0,hl]
 rw [countP_split (p:=fun (j:Nat)=>some.contains (j:Int)) (q:=fun j=>decide (work.getD j 0=-1)) (r:=fun j=>decide (0≤work.getD j 0)&&decide (work.getD j 0<(n:Int))&&nbr fit some (work.getD j 0).toNat) (l:=List.range fit.length) fun j hj=>?_]
 ·omega
 ·have hj:=List.mem_range.1 hj
  by_cases e:work.getD j 0=-1
  ·have h2:some.contains (j:Int)=true:=by rw [List.contains_iff_mem];exact hu j hj e
   rw [h2,e]
   simp
  ·have hmj:=(hm j hj).resolve_left e
   have hr:=hfit _ _ hmj
   have h3:some.contains (j:Int)=nbr fit some (work.getD j 0).toNat:=by
    rw [Bool.eq_iff_iff,List.contains_iff_mem]
    constructor
    ·intro hjs
     exact nbr_of hjs hmj hr.1
    ·intro hN
     unfold nbr at hN
     rw [List.any_eq_true] at hN
     obtain ⟨k,hk,hik⟩:=hN
     rw [List.contains_iff_mem,Int.toNat_of_nonneg hr.1] at hik
     exact (hc k hk _ hik).2 _ (mem_holdV.2 ⟨by omega,by omega,by rw [Int.toNat_natCast]⟩)
   rw [h3]
   have e2:decide (work.getD j 0=-1)=false:=decide_eq_false e
   have e3:decide (0≤work.getD j 0)=true:=decide_eq_true hr.1
   have e4:decide (work.getD j 0<(n:Int))=true:=decide_eq_true hr.2
   rw [e2,e3,e4]
   simp
structure WInv (n:Nat) (fit:List (List Int)) (stock:List Int) (k:Nat) (work:List Int):Prop where
 len:work.length=fit.length
 val:ValidW n stock work
 mem:∀ i:Nat,i<fit.length→work.getD i 0=-1∨work.getD i 0∈fitOf fit (i:Int)
 rest:∀ i:Nat,k≤i→i<fit.length→work.getD i 0=-1
 closed:∃ C,ClosedJ fit stock work C∧(∀ c,C c→0≤c∧c<(k:Int))∧∀ i:Nat,i<k→work.getD i 0=-1→C (i:Int)
theorem getD_repl {J i:Nat} (h:i<J):(List.replicate J (-1:Int)).getD i 0=-1:=by
 rw [List.getD_eq_getElem?_getD,List.getElem?_eq_getElem (by simpa using h)]
 simp
open Classical in
theorem task_cut0 {n:Nat} {fit:List (List Int)} {stock work:List Int} (hsl:stock.length=n) (hfr:∀ l∈fit,∀ s∈l,0≤s∧s<(n:Int)) (h0:∀ i,i<stock.length→0≤stock.getD i 0) (h:WInv n fit stock fit.length work) :
  mostL fit stock=(fit.length:Int) - ((holdV work (-1)).length:Int)∧∃ some,jobsOk fit.length some∧lacksV fit stock some=((holdV work (-1)).length:Int):=by
 have hf:∀ l∈fit,∀ s∈l,0≤s∧s<(stock.length:Int):=fun l hl s hs=>by rw [hsl];exact hfr l hl s hs
 have h1:=mostL_served fit work stock h.len (fun i hi=>by have:=h.mem i hi;unfold fitOf at this;rw [Int.toNat_natCast] at this;exact this) hf fun s hs0 hsn=>by
  rw [←holdV_count'];exact h.val s hs0 (by rw [←hsl];exact hsn)
 have h2:=List.length_eq_countP_add_countP (l:=work) fun x=>decide (x=-1)
 have h3:(work.countP fun x=>decide ¬decide (x=(-1:Int))=true)=work.countP fun x=>!decide (x=-1):=List.countP_congr fun x _=>by simp
 rw [h3,←holdV_count',h.len] at h2
 obtain ⟨C,hC,hC1,hC2⟩:=h.closed
 have hmem:∀ x,x∈(((List.range fit.length).filter fun (j:Nat)=>decide (C (j:Int))).map fun (i:Nat)=>(i:Int))↔C x:=fun x=>by
  rw [mem_filt]
  constructor
  ·rintro ⟨a,b,c⟩
   rw [Int.toNat_of_nonneg a] at c
   simpa using c
  ·intro hx
   have:=hC1 x hx
   exact ⟨this.1,this.2,by rw [Int.toNat_of_nonneg this.1];simpa using hx⟩
 have hok:jobsOk fit.length (((List.range fit.length).filter fun (j:Nat)=>decide (C (j:Int))).map fun (i:Nat)=>(i:Int)):=⟨filt_asc _ _,fun k hk=>hC1 k ((hmem k).1 hk)⟩
 have h4:=lacks_eq hf h.len hsl h.val h.mem hok (fun i hi hu=>(hmem _).2 (hC2 i hi hu)) fun j hj s hs=>⟨(hC j ((hmem j).1 hj) s hs).1,fun o ho=>(hmem o).2 ((hC j ((hmem j).1 hj) s hs).2 o ho)⟩
 have h5:=lacks_le hf h0 hok
 exact ⟨by omega,_,hok,h4⟩
end Go.Fer
namespace Go.Fer
open M (Step)
set_option linter.unusedVariables false
set_option linter.unusedSimpArgs false
theorem ite_comm (a b:Int):(if a=b then 1 else 0)=(if b=a then 1 else (0:Nat)):=by
 by_cases h:a=b
 ·rw [if_pos h,if_pos h.symm]
 ·rw [if_neg h,if_neg fun e=>h e.symm]
def cnt (g:List Int) (j:Int):Nat:=g.countP fun x=>decide (x=j)
theorem cnt_set:∀ {g:List Int} {i:Nat} {x:Int} (j:Int),i<g.length→cnt (g.set i x) j+(if g.getD i 0=j then 1 else 0)=cnt g j+(if x=j then 1 else 0)
 | [],i,x,j,h=>by simp at h
 | y::g,0,x,j,h=>by
  unfold cnt
  simp only [List.set_cons_zero,List.countP_cons,List.getD_cons_zero,decide_eq_true_eq]
  omega
 | y::g,i+1,x,j,h=>by
  have:=cnt_set (g:=g) (i:=i) (x:=x) j (by simpa using h)
  unfold cnt at *
  simp only [List.set_cons_succ,List.countP_cons,List.getD_cons_succ,decide_eq_true_eq]
  omega
theorem cnt_pos {g:List Int} {i:Nat} {j:Int} (hi:i<g.length) (h:g.getD i 0=j):0<cnt g j:=by
 unfold cnt
 rw [List.countP_pos_iff]
 refine ⟨g[i],List.getElem_mem hi,?_⟩
 rw [List.getD_eq_getElem?_getD,List.getElem?_eq_getElem hi] at h
 simpa using h
theorem cnt_uniq {g:List Int} {i k:Nat} {j:Int} (hj:j≠-1) (h:cnt g j≤1) (hi:i<g.length) (hk:k<g.length) (h1:g.getD i 0=j) (h2:g.getD k 0=j):i=k:=by
 by_cases e:i=k
 ·exact e
 ·have a:=cnt_set (x:=-1) j hi
  rw [if_pos h1,if_neg fun e=>hj e.symm] at a
  have b:0<cnt (g.set i (-1)) j:=cnt_pos (i:=k) (by simpa using hk) (by rw [getD_set' hi,if_neg fun x=>e x.symm];exact h2)
  omega
def uStep (gd:Nat→Int→Bool) (rec:Int→GSt→Bool×GSt) (own:Int) (i:Nat) (st:GSt):Step GSt (Bool×GSt):=
 if (decide (mval st.2 (i:Int) > 0)||!gd i own)=true then .next st
 else if decide (st.1.getD i 0=-1)=true then .done (true,(st.1.set i own,msetI st.2 (i:Int) (mval st.2 (i:Int)+1)))
 else if (rec (st.1.getD i 0) (st.1,msetI st.2 (i:Int) (mval st.2 (i:Int)+1))).1=true then .done (true,((rec (st.1.getD i 0) (st.1,msetI st.2 (i:Int) (mval st.2 (i:Int)+1))).2.1.set i own,(rec (st.1.getD i 0) (st.1,msetI st.2 (i:Int) (mval st.2 (i:Int)+1))).2.2))
 else .next (rec (st.1.getD i 0) (st.1,msetI st.2 (i:Int) (mval st.2 (i:Int)+1))).2
def giveU (gd:Nat→Int→Bool) (m:Nat):Nat→Int→GSt→Bool×GSt
 | 0=>fun _ st=>(false,st)
 | f+1=>fun own st=>foldS (uStep gd (giveU gd m f) own) (fun st=>(false,st)) (List.range m) st
def URng (m J:Nat) (g:List Int):Prop:=∀ i,i<m→g.getD i 0=-1∨(0≤g.getD i 0∧g.getD i 0<(J:Int))
structure UD (m J f:Nat) (st:GSt):Prop where
 len:st.1.length=m
 rng:URng m J st.1
 seen:∀ k,0≤mval st.2 k∧mval st.2 k≤1
 fuel:unas m st.2<f
structure UP (m J:Nat) (st r:GSt):Prop where
 len:r.1.length=m
 rng:URng m J r.1
 seen:∀ k,mval st.2 k≤mval r.2 k∧mval r.2 k≤1
def ClosedU (gd:Nat→Int→Bool) (m:Nat) (g:List Int) (C:Int→Prop):Prop:=∀ j,C j→∀ i,i<m→gd i j=true→g.getD i 0≠-1∧C (g.getD i 0)
def UNew (gd:Nat→Int→Bool) (m:Nat) (g:List Int) (s s':List (Int×Int)):Prop:=∀ i,i<m→mval s (i:Int)=0→1≤mval s' (i:Int)→g.getD i 0≠-1∧∀ k,k<m→gd k (g.getD i 0)=true→1≤mval s' (k:Int)
structure UR (gd:Nat→Int→Bool) (m:Nat) (own:Int) (st:GSt) (r:Bool×GSt):Prop where
 no:r.1=false→r.2.1=st.1∧(∀ i,i<m→gd i own=true→1≤mval r.2.2 (i:Int))∧UNew gd m st.1 st.2 r.2.2
 yes:r.1=true→(∀ i,i<m→r.2.1.getD i 0=st.1.getD i 0∨(mval st.2 (i:Int)=0∧gd i (r.2.1.getD i 0)=true))∧∀ j,j≠-1→cnt r.2.1 j=cnt st.1 j+(if j=own then 1 else 0)
 cl:∀ C,ClosedU gd m st.1 C→(C own→r.1=false)∧(r.1=true→∀ i,i<m→r.2.1.getD i 0≠st.1.getD i 0→∀ c,C c→gd i c=false)
def RecU (gd:Nat→Int→Bool) (m J f:Nat) (rec:Int→GSt→Bool×GSt):Prop:=∀ own st,0≤own→own<(J:Int)→UD m J f st→UP m J st (rec own st).2∧UR gd m own st (rec own st)
theorem giveU_step {gd:Nat→Int→Bool} {m J f:Nat} {rec:Int→GSt→Bool×GSt} (hrec:RecU gd m J f rec) {own:Int} (ho0:0≤own) (hoJ:own<(J:Int)) {st:GSt} (h0:UD m J (f+1) st) :
  UP m J st (foldS (uStep gd rec own) (fun st=>(false,st)) (List.range m) st).2∧UR gd m own st (foldS (uStep gd rec own) (fun st=>(false,st)) (List.range m) st):=by
 refine foldS_inv (fun k b=>b.1=st.1∧(∀ q,mval st.2 q≤mval b.2 q∧mval b.2 q≤1)∧(∀ i,i<k→i<m→gd i own=true→1≤mval b.2 (i:Int))∧UNew gd m st.1 st.2 b.2)
  (fun r:Bool×GSt=>UP m J st r.2∧UR gd m own st r) (List.range m) st ⟨rfl,fun q=>⟨Int.le_refl _,(h0.seen q).2⟩,fun i hi=>by omega,fun i _ h1 h2=>by omega⟩ (fun i hi b hb=>?_) fun b hb=>?_
 ·obtain ⟨hw,hse,hask,hnew⟩:=hb
  have hi:i<m:=by simpa using hi
  rw [List.getElem_range]
  have hnn:∀ q,0≤mval b.2 q:=fun q=>Int.le_trans (h0.seen q).1 (hse q).1
  unfold uStep
  by_cases hc:(decide (mval b.2 (i:Int) > 0)||!gd i own)=true
  ·rw [if_pos hc]
   refine ⟨hw,hse,fun k hk hkm hgk=>?_,hnew⟩
   by_cases e:k=i
   ·subst e
    rw [hgk] at hc
    simp only [Bool.not_true,Bool.or_false,decide_eq_true_eq] at hc
    omega
   ·exact hask k (by omega) hkm hgk
  ·rw [if_neg hc]
   simp only [Bool.or_eq_true,not_or,decide_eq_true_eq,Bool.not_eq_true',Bool.not_eq_false] at hc
   obtain ⟨hz,hg⟩:=hc
   have hz:mval b.2 (i:Int)=0:=by have:=hnn i;omega
   have hz0:mval st.2 (i:Int)=0:=by have:=(hse i).1;have:=(h0.seen i).1;omega
   have hil:i<st.1.length:=by rw [h0.len];exact hi
   have hm1:∀ q,mval b.2 q≤mval (msetI b.2 (i:Int) (mval b.2 (i:Int)+1)) q∧mval (msetI b.2 (i:Int) (mval b.2 (i:Int)+1)) q≤1:=fun q=>by
    have:=hse q
    rw [mval_mset];split
    ·rename_i e;rw [e];omega
    ·omega
   have hsi:mval (msetI b.2 (i:Int) (mval b.2 (i:Int)+1)) (i:Int)=1:=by rw [mval_mset,if_pos rfl,hz];rfl
   by_cases hf:st.1.getD i 0=-1
   ·rw [hw,if_pos (by simpa using hf)]
    refine ⟨⟨by show (st.1.set i own).length=m;rw [List.length_set];exact h0.len,fun k hk=>?_,fun q=>⟨Int.le_trans (hse q).1 (hm1 q).1,(hm1 q).2⟩⟩,fun h=>(by cases h),fun _=>⟨fun k hk=>?_,fun j hj=>?_⟩,fun C hC=>⟨fun hco=>?_,fun _ k hk hne c hc=>?_⟩⟩
    ·show (st.1.set i own).getD k 0=-1∨(0≤(st.1.set i own).getD k 0∧(st.1.set i own).getD k 0<(J:Int))
     rw [getD_set' hil]
     split
     ·exact .inr ⟨ho0,hoJ⟩
     ·exact h0.rng k hk
    ·show (st.1.set i own).getD k 0=_∨(_∧gd k ((st.1.set i own).getD k 0)=true)
     rw [getD_set' hil]
     split
     ·rename_i e;subst e;exact .inr ⟨hz0,hg⟩
     ·exact .inl rfl
    ·have:=cnt_set (x:=own) j hil
     rw [hf,if_neg fun e=>hj e.symm] at this
     show cnt (st.1.set i own) j=_
     rw [ite_comm j own]
     omega
    ·exact absurd hf (hC own hco i hi hg).1
    ·change (st.1.set i own).getD k 0≠_ at hne
     rw [getD_set' hil] at hne
     split at hne
     ·rename_i e
      subst e
      cases hgc:gd k c with
      | false=>rfl
      | true=>exact absurd hf (hC c hc k hi hgc).1
     ·exact absurd rfl hne
   ·rw [hw,if_neg (by simpa using hf)]
    have hr0:=(h0.rng i hi).resolve_left hf
    have hud:UD m J f (st.1,msetI b.2 (i:Int) (mval b.2 (i:Int)+1)):=by
     refine ⟨h0.len,h0.rng,fun q=>⟨Int.le_trans (hnn q) (hm1 q).1,(hm1 q).2⟩,?_⟩
     have h1:=unas_mark (n:=m) (m:=b.2) (s:=(i:Int)) (v:=mval b.2 (i:Int)+1) (by omega) (by omega) hz (by omega)
     have h2:=unas_mono (n:=m) (a:=st.2) (b:=b.2) fun k=>⟨(h0.seen k).1,(hse k).1⟩
     have h3:=h0.fuel
     show unas m (msetI b.2 (i:Int) (mval b.2 (i:Int)+1))<f
     omega
    obtain ⟨hp,hr⟩:=hrec (st.1.getD i 0) _ hr0.1 hr0.2 hud
    revert hp hr
    generalize rec (st.1.getD i 0) (st.1,msetI b.2 (i:Int) (mval b.2 (i:Int)+1))=r
    intro hp hr
    have hp2:∀ q,mval (msetI b.2 (i:Int) (mval b.2 (i:Int)+1)) q≤mval r.2.2 q:=fun q=>(hp.seen q).1
    by_cases h5:r.1=true
    ·rw [if_pos h5]
     obtain ⟨hmv,hct⟩:=hr.yes h5
     have hrl:i<r.2.1.length:=by rw [hp.len];exact hi
     have hri:r.2.1.getD i 0=st.1.getD i 0:=by
      rcases hmv i hi with e | ⟨e,_⟩
      ·exact e
      ·change mval (msetI b.2 (i:Int) (mval b.2 (i:Int)+1)) (i:Int)=0 at e
       rw [hsi] at e;cases e
     refine ⟨⟨by show (r.2.1.set i own).length=m;rw [List.length_set];exact hp.len,fun k hk=>?_,fun q=>⟨Int.le_trans (hse q).1 (Int.le_trans (hm1 q).1 (hp2 q)),(hp.seen q).2⟩⟩,fun h=>(by cases h),fun _=>⟨fun k hk=>?_,fun j hj=>?_⟩,fun C hC=>⟨fun hco=>?_,fun _ k hk hne c hc=>?_⟩⟩
     ·show (r.2.1.set i own).getD k 0=-1∨(0≤(r.2.1.set i own).getD k 0∧(r.2.1.set i own).getD k 0<(J:Int))
      rw [getD_set' hrl]
      split
      ·exact .inr ⟨ho0,hoJ⟩
      ·exact hp.rng k hk
     ·show (r.2.1.set i own).getD k 0=_∨(_∧gd k ((r.2.1.set i own).getD k 0)=true)
      rw [getD_set' hrl]
      split
      ·rename_i e;subst e;exact .inr ⟨hz0,hg⟩
      ·rcases hmv k hk with e | ⟨e1,e2⟩
       ·exact .inl e
       ·right
        refine ⟨?_,e2⟩
        have a:=(hm1 (k:Int)).1
        have d:=hse (k:Int)
        have c:=(h0.seen (k:Int)).1
        change mval (msetI b.2 (i:Int) (mval b.2 (i:Int)+1)) (k:Int)=0 at e1
        omega
     ·have a:=cnt_set (x:=own) j hrl
      have d:=hct j hj
      change cnt r.2.1 j=cnt st.1 j+_ at d
      rw [hri] at a
      show cnt (r.2.1.set i own) j=_
      rw [ite_comm j own]
      rw [ite_comm j (st.1.getD i 0)] at d
      omega
     ·have:=(hr.cl C hC).1 (hC own hco i hi hg).2
      rw [h5] at this;exact this
     ·change (r.2.1.set i own).getD k 0≠_ at hne
      rw [getD_set' hrl] at hne
      split at hne
      ·rename_i e
       subst e
       cases hgc:gd k c with
       | false=>rfl
       | true=>
        have:=(hr.cl C hC).1 (hC c hc k hi hgc).2
        rw [h5] at this;cases this
      ·exact (hr.cl C hC).2 h5 k hk hne c hc
    ·rw [if_neg h5]
     have hff:r.1=false:=by simpa using h5
     obtain ⟨hw',hfit,hnf⟩:=hr.no hff
     refine ⟨hw',fun q=>⟨Int.le_trans (hse q).1 (Int.le_trans (hm1 q).1 (hp2 q)),(hp.seen q).2⟩,fun k hk hkm hgk=>?_,fun k hkm e0 e1=>?_⟩
     ·by_cases e:k=i
      ·subst e
       have:=hp2 (k:Int)
       omega
      ·have a:=hask k (by omega) hkm hgk
       have c:=(hm1 (k:Int)).1
       have d:=hp2 (k:Int)
       omega
     ·by_cases e:k=i
      ·subst e
       exact ⟨hf,hfit⟩
      ·by_cases e2:1≤mval b.2 (k:Int)
       ·obtain ⟨a,c⟩:=hnew k hkm e0 e2
        refine ⟨a,fun q hq hgq=>?_⟩
        have d:=c q hq hgq
        have e3:=(hm1 (q:Int)).1
        have e4:=hp2 (q:Int)
        omega
       ·refine hnf k hkm ?_ e1
        show mval (msetI b.2 (i:Int) (mval b.2 (i:Int)+1)) (k:Int)=0
        rw [mval_mset,if_neg (by omega)]
        have:=hnn (k:Int)
        omega
 ·obtain ⟨hw,hse,hask,hnew⟩:=hb
  rw [List.length_range] at hask
  refine ⟨⟨by rw [hw];exact h0.len,by rw [hw];exact h0.rng,hse⟩,fun _=>⟨hw,fun i hi hg=>hask i hi hi hg,hnew⟩,fun h=>(by cases h),fun C hC=>⟨fun _=>rfl,fun h=>(by cases h)⟩⟩
theorem giveU_ok {gd:Nat→Int→Bool} {m J:Nat}:∀ f,RecU gd m J f (giveU gd m f)
 | 0=>fun own st _ _ h=>absurd h.fuel (by omega)
 | f+1=>fun own st h0 h1 h=>giveU_step (giveU_ok f) h0 h1 h
def lackStep (gd:Nat→Int→Bool) (m F:Nat) (st:List Int×Int) (j:Nat):List Int×Int:=((giveU gd m F (j:Int) (st.1,[])).2.1,if (giveU gd m F (j:Int) (st.1,[])).1=true then st.2 else st.2+1)
def lackU (gd:Nat→Int→Bool) (m J F:Nat):List Int×Int:=(List.range J).foldl (lackStep gd m F) (List.replicate m (-1),0)
structure GInv (gd:Nat→Int→Bool) (m J k:Nat) (st:List Int×Int):Prop where
 len:st.1.length=m
 rng:∀ i,i<m→st.1.getD i 0=-1∨(0≤st.1.getD i 0∧st.1.getD i 0<(k:Int)∧gd i (st.1.getD i 0)=true)
 one:∀ j,0≤j→cnt st.1 j≤1
 num:st.2=(((List.range k).countP fun (j:Nat)=>decide (cnt st.1 (j:Int)=0):Nat):Int)
 closed:∃ C,ClosedU gd m st.1 C∧(∀ c,C c→0≤c∧c<(k:Int))∧∀ j:Nat,j<k→cnt st.1 (j:Int)=0→C (j:Int)
theorem ginv_step {gd:Nat→Int→Bool} {m J F k:Nat} (hF:m<F) (hk:k<J) {st:List Int×Int} (h:GInv gd m J k st):GInv gd m J (k+1) (lackStep gd m F st k):=by
 obtain ⟨g,n⟩:=st
 have hu:unas m []≤m:=by
  unfold unas
  exact Nat.le_trans List.countP_le_length (by simp)
 have hud:UD m J F (g,[]):=⟨h.len,fun i hi=>by have:=h.rng i hi;rcases this with e | e;exact .inl e;exact .inr ⟨e.1,by have h2:g.getD i 0<(k:Int):=e.2.1;show g.getD i 0<(J:Int);omega⟩,fun q=>⟨Int.le_refl _,by show (0:Int)≤1;decide⟩,by show unas m []<F;omega⟩
 obtain ⟨hp,hr⟩:=giveU_ok F (k:Int) (g,[]) (by omega) (by omega) hud
 unfold lackStep
 revert hp hr
 generalize giveU gd m F (k:Int) (g,[])=r
 intro hp hr
 have hk0:cnt g (k:Int)=0:=by
  unfold cnt
  rw [List.countP_eq_zero]
  intro x hx
  obtain ⟨i,hi,rfl⟩:=List.mem_iff_getElem.1 hx
  have:=h.rng i (by rw [←h.len];exact hi)
  simp only [List.getD_eq_getElem?_getD,List.getElem?_eq_getElem hi,Option.getD_some] at this
  simp only [decide_eq_true_eq]
  omega
 obtain ⟨C,hC,hC1,hC2⟩:=h.closed
 by_cases hb:r.1=true
 ·obtain ⟨hmv,hct⟩:=hr.yes hb
  have hap:=(hr.cl C hC).2 hb
  refine ⟨hp.len,fun i hi=>?_,fun j hj=>?_,?_,C,fun c hcc i hi hgi=>?_,fun c hcc=>?_,fun j hj hu=>?_⟩
  ·show r.2.1.getD i 0=-1∨_
   rcases hmv i hi with e | ⟨e1,e2⟩
   ·rw [e]
    rcases h.rng i hi with a | a
    ·exact .inl a
    ·exact .inr ⟨a.1,by have:=a.2.1;show g.getD i 0<_;change g.getD i 0<_ at this;omega,a.2.2⟩
   ·by_cases hm1:r.2.1.getD i 0=-1
    ·exact .inl hm1
    ·refine .inr ⟨?_,?_,e2⟩
     ·have:=(hp.rng i hi).resolve_left hm1;exact this.1
     ·
      have h1:=hct _ hm1
      have h2:0<cnt r.2.1 (r.2.1.getD i 0):=cnt_pos (by rw [hp.len];exact hi) rfl
      by_cases e:r.2.1.getD i 0=(k:Int)
      ·show r.2.1.getD i 0<_;omega
      ·rw [if_neg e] at h1
       have h3:0<cnt g (r.2.1.getD i 0):=by change cnt r.2.1 _=cnt g _+0 at h1;omega
       unfold cnt at h3
       rw [List.countP_pos_iff] at h3
       obtain ⟨x,hx,hxe⟩:=h3
       obtain ⟨q,hq,rfl⟩:=List.mem_iff_getElem.1 hx
       have:=h.rng q (by rw [←h.len];exact hq)
       simp only [List.getD_eq_getElem?_getD,List.getElem?_eq_getElem hq,Option.getD_some] at this
       simp only [decide_eq_true_eq,List.getD_eq_getElem?_getD] at hxe
       simp only [List.getD_eq_getElem?_getD] at hm1 e ⊢
       rcases this with a | a
       ·exact absurd (hxe ▸ a) hm1
       ·have:=a.2.1
        omega
  ·have h1:=hct j (by omega)
   have h2:=h.one j hj
   change cnt r.2.1 j=cnt g j+_ at h1
   change cnt g j≤1 at h2
   show cnt r.2.1 j≤1
   by_cases e:j=(k:Int)
   ·subst e;rw [if_pos rfl] at h1;omega
   ·rw [if_neg e] at h1;omega
  ·rw [if_pos hb]
   have h1:=h.num
   change n=_ at h1
   show n=_
   rw [h1,List.range_succ,List.countP_append]
   have h2:∀ j:Nat,j<k→cnt r.2.1 (j:Int)=cnt g (j:Int):=fun j hj=>by
    have:=hct (j:Int) (by omega)
    rw [if_neg (by omega)] at this
    exact this
   have h3:cnt r.2.1 (k:Int)=1:=by
    have:=hct (k:Int) (by omega)
    rw [if_pos rfl] at this
    change cnt r.2.1 (k:Int)=cnt g (k:Int)+1 at this
    omega
   have h4:(List.range k).countP (fun (j:Nat)=>decide (cnt r.2.1 (j:Int)=0))=(List.range k).countP (fun (j:Nat)=>decide (cnt g (j:Int)=0)):=List.countP_congr fun j hj=>by rw [h2 j (List.mem_range.1 hj)]
   show _=((((List.range k).countP (fun (j:Nat)=>decide (cnt r.2.1 (j:Int)=0)))+List.countP (fun (j:Nat)=>decide (cnt r.2.1 (j:Int)=0)) [k]:Nat):Int)
   rw [h4]
   simp [h3]
  ·show r.2.1.getD i 0≠-1∧C (r.2.1.getD i 0)
   by_cases e:r.2.1.getD i 0=g.getD i 0
   ·rw [e];exact hC c hcc i hi hgi
   ·have:=hap i hi e c hcc
    rw [hgi] at this;cases this
  ·have:=hC1 c hcc;omega
  ·change cnt r.2.1 (j:Int)=0 at hu
   have h1:=hct (j:Int) (by omega)
   change cnt r.2.1 _=cnt g _+_ at h1
   by_cases e:j=k
   ·subst e;rw [if_pos rfl] at h1;omega
   ·rw [if_neg (by omega)] at h1
    exact hC2 j (by omega) (by show cnt g (j:Int)=0;omega)
 ·have hff:r.1=false:=by simpa using hb
  obtain ⟨hw,hask,hnew⟩:=hr.no hff
  change r.2.1=g at hw
  simp only [hw]
  refine ⟨h.len,fun i hi=>?_,h.one,?_,fun c=>C c∨c=(k:Int)∨∃ i,i<m∧1≤mval r.2.2 (i:Int)∧c=g.getD i 0,fun c hcc i hi hgi=>?_,fun c hcc=>?_,fun j hj hu=>?_⟩
  ·rcases h.rng i hi with a | a
   ·exact .inl a
   ·exact .inr ⟨a.1,by have:=a.2.1;show g.getD i 0<_;change g.getD i 0<_ at this;omega,a.2.2⟩
  ·rw [if_neg hb]
   have h1:=h.num
   change n=_ at h1
   show n+1=_
   rw [h1,List.range_succ,List.countP_append]
   show _=((((List.range k).countP (fun (j:Nat)=>decide (cnt g (j:Int)=0)))+List.countP (fun (j:Nat)=>decide (cnt g (j:Int)=0)) [k]:Nat):Int)
   simp [hk0]
  ·have hn:1≤mval r.2.2 (i:Int)→g.getD i 0≠-1∧(C (g.getD i 0)∨g.getD i 0=(k:Int)∨∃ q,q<m∧1≤mval r.2.2 (q:Int)∧g.getD i 0=g.getD q 0):=fun hs=>⟨(hnew i hi rfl hs).1,.inr (.inr ⟨i,hi,hs,rfl⟩)⟩
   rcases hcc with e | e | ⟨q,hq,hs,e⟩
   ·exact ⟨(hC c e i hi hgi).1,.inl (hC c e i hi hgi).2⟩
   ·subst e;exact hn (hask i hi hgi)
   ·subst e;exact hn ((hnew q hq rfl hs).2 i hi hgi)
  ·rcases hcc with e | e | ⟨q,hq,hs,e⟩
   ·have:=hC1 c e;omega
   ·omega
   ·have:=(h.rng q hq).resolve_left (hnew q hq rfl hs).1
    subst e
    exact ⟨this.1,by have:=this.2.1;show g.getD q 0<_;change g.getD q 0<_ at this;omega⟩
  ·by_cases e:j=k
   ·subst e;exact .inr (.inl rfl)
   ·exact .inl (hC2 j (by omega) hu)
theorem lackU_inv (gd:Nat→Int→Bool) (m J F:Nat) (hF:m<F):GInv gd m J J (lackU gd m J F):=by
 unfold lackU
 have key:∀ k,k≤J→GInv gd m J k ((List.range k).foldl (lackStep gd m F) (List.replicate m (-1),0)):=by
  intro k
  induction k with
  | zero=>
   intro _
   refine ⟨by simp,fun i hi=>.inl (getD_repl hi),fun j hj=>?_,by simp,fun _=>False,fun _ h=>h.elim,fun _ h=>h.elim,fun j hj=>by omega⟩
   show cnt (List.replicate m (-1)) j≤1
   have:cnt (List.replicate m (-1)) j=0:=by
    unfold cnt
    rw [List.countP_eq_zero]
    intro x hx
    rw [(List.mem_replicate.1 hx).2]
    simp only [decide_eq_true_eq]
    omega
   omega
  | succ k ih=>
   intro hk
   rw [List.range_succ,List.foldl_append]
   exact ginv_step hF (by omega) (ih (by omega))
 exact key J (Nat.le_refl _)
end Go.Fer
namespace Go.Fer
open M (Step)
set_option linter.unusedVariables false
set_option linter.unusedSimpArgs false
theorem rsum_ind {p:Nat→Bool}:∀ {n:Nat},rsum n (fun i=>if p i=true then 1 else 0)=((List.range n).countP p:Int)
 | 0=>rfl
 | n+1=>by
  show rsum n _+(if p n=true then (1:Int) else 0)=_
  rw [rsum_ind,List.range_succ,List.countP_append]
  simp only [List.countP_cons,List.countP_nil]
  split<;>simp
theorem rsum_add {f g:Nat→Int}:∀ {n:Nat},rsum n (fun i=>f i+g i)=rsum n f+rsum n g
 | 0=>rfl
 | n+1=>by
  show rsum n (fun i=>f i+g i)+(f n+g n)=rsum n f+f n+(rsum n g+g n)
  rw [rsum_add]
  omega
theorem rsum_swap {F:Nat→Nat→Int} {m:Nat}:∀ {n:Nat},rsum n (fun j=>rsum m fun i=>F i j)=rsum m fun i=>rsum n fun j=>F i j
 | 0=>by
  show (0:Int)=rsum m fun _=>0
  rw [rsum_zero]
 | n+1=>by
  show rsum n (fun j=>rsum m fun i=>F i j)+rsum m (fun i=>F i n)=rsum m fun i=>rsum n (fun j=>F i j)+F i n
  rw [rsum_swap,rsum_add]
theorem rsum_single {f:Nat→Int} {k n:Nat} (hk:k<n) (h:∀ i,i<n→i≠k→f i=0):rsum n f=f k:=by
 rw [rsum_upd (k:=k) (g:=fun _=>0) hk h,rsum_zero]
 omega
def workU (kd:Nat→Nat) (g:List Int) (m J:Nat):List Int:=(List.range J).map fun (j:Nat)=>match (List.range m).find? fun i=>decide (g.getD i 0=(j:Int)) with | some i=>(kd i:Int) | none=>-1
section
variable {gd:Nat→Int→Bool} {kd:Nat→Nat} {m J:Nat} {g:List Int} {n0:Int}
theorem workU_get {j:Nat} (hj:j<J):(workU kd g m J).getD j 0=match (List.range m).find? fun i=>decide (g.getD i 0=(j:Int)) with | some i=>(kd i:Int) | none=>-1:=by
 unfold workU
 rw [List.getD_eq_getElem?_getD,List.getElem?_eq_getElem (by simpa using hj)]
 simp
theorem workU_some (h:GInv gd m J J (g,n0)) {j i:Nat} (hj:j<J) (hi:i<m) (hg:g.getD i 0=(j:Int)):(workU kd g m J).getD j 0=(kd i:Int):=by
 rw [workU_get hj]
 cases hf:(List.range m).find? fun i=>decide (g.getD i 0=(j:Int)) with
 | none=>
  have:=List.find?_eq_none.1 hf i (List.mem_range.2 hi)
  simp only [decide_eq_true_eq] at this
  exact absurd hg this
 | some q=>
  have h1:=List.find?_some hf
  have h2:=List.mem_range.1 (List.mem_of_find?_eq_some hf)
  simp only [decide_eq_true_eq] at h1
  have hl:=h.len
  change g.length=m at hl
  have:q=i:=cnt_uniq (j:=(j:Int)) (by omega) (h.one (j:Int) (by omega)) (by rw [hl];exact h2) (by rw [hl];exact hi) h1 hg
  rw [this]
theorem workU_none (h:GInv gd m J J (g,n0)) {j:Nat} (hj:j<J) (hc:cnt g (j:Int)=0):(workU kd g m J).getD j 0=-1:=by
 rw [workU_get hj]
 cases hf:(List.range m).find? fun i=>decide (g.getD i 0=(j:Int)) with
 | none=>rfl
 | some q=>
  have h1:=List.find?_some hf
  have h2:=List.mem_range.1 (List.mem_of_find?_eq_some hf)
  simp only [decide_eq_true_eq] at h1
  have hl:=h.len
  change g.length=m at hl
  have:=cnt_pos (by rw [hl];exact h2) h1
  omega
theorem workU_ex (h:GInv gd m J J (g,n0)) {j:Nat} {s:Int} (hj:j<J) (hs:0≤s) (hw:(workU kd g m J).getD j 0=s):∃ i,i<m∧g.getD i 0=(j:Int)∧(kd i:Int)=s:=by
 rw [workU_get hj] at hw
 revert hw
 cases hf:(List.range m).find? fun i=>decide (g.getD i 0=(j:Int)) with
 | none=>intro hw;change (-1:Int)=s at hw;omega
 | some q=>
  intro hw
  have h1:=List.find?_some hf
  have h2:=List.mem_range.1 (List.mem_of_find?_eq_some hf)
  simp only [decide_eq_true_eq] at h1
  exact ⟨q,h2,h1,hw⟩
theorem workU_minus (h:GInv gd m J J (g,n0)) {j:Nat} (hj:j<J):(workU kd g m J).getD j 0=-1↔cnt g (j:Int)=0:=by
 refine ⟨fun hw=>?_,workU_none h hj⟩
 by_cases hc:cnt g (j:Int)=0
 ·exact hc
 ·have hp:0<cnt g (j:Int):=by omega
  unfold cnt at hp
  rw [List.countP_pos_iff] at hp
  obtain ⟨x,hx,hxe⟩:=hp
  obtain ⟨q,hq,rfl⟩:=List.mem_iff_getElem.1 hx
  have hl:=h.len
  change g.length=m at hl
  have e:g.getD q 0=(j:Int):=by
   rw [List.getD_eq_getElem?_getD,List.getElem?_eq_getElem hq]
   simpa using hxe
  have:=workU_some (kd:=kd) h hj (by rw [←hl];exact hq) e
  omega
theorem workU_len:(workU kd g m J).length=J:=by simp [workU]
theorem workU_hold (h:GInv gd m J J (g,n0)) (s:Nat):((holdV (workU kd g m J) (s:Int)).length:Int)=((List.range m).countP fun i=>decide (kd i=s)&&!decide (g.getD i 0=-1):Nat):=by
 rw [holdV_count,workU_len,←rsum_ind,←rsum_ind]
 have h1:∀ j,j<J→(if decide ((workU kd g m J).getD j 0=(s:Int))=true then (1:Int) else 0)=rsum m fun i=>if (decide (g.getD i 0=(j:Int))&&decide (kd i=s))=true then 1 else 0:=fun j hj=>by
  by_cases hc:cnt g (j:Int)=0
  ·rw [workU_none h hj hc,if_neg (by rw [decide_eq_true_eq];omega)]
   symm
   rw [rsum_congr (g:=fun _=>0) fun i hi=>if_neg ?_,rsum_zero]
   intro e
   rw [Bool.and_eq_true,decide_eq_true_eq] at e
   have hl:=h.len
   change g.length=m at hl
   have:=cnt_pos (by rw [hl];exact hi) e.1
   omega
  ·have hw:(workU kd g m J).getD j 0≠-1:=fun e=>hc ((workU_minus h hj).1 e)
   obtain ⟨q,hq,hgq⟩:∃ q,q<m∧g.getD q 0=(j:Int):=by
    have hp:0<cnt g (j:Int):=by omega
    unfold cnt at hp
    rw [List.countP_pos_iff] at hp
    obtain ⟨x,hx,hxe⟩:=hp
    obtain ⟨q,hq,rfl⟩:=List.mem_iff_getElem.1 hx
    have hl:=h.len
    change g.length=m at hl
    refine ⟨q,by rw [←hl];exact hq,?_⟩
    rw [List.getD_eq_getElem?_getD,List.getElem?_eq_getElem hq]
    simpa using hxe
   rw [workU_some h hj hq hgq]
   symm
   rw [rsum_single (k:=q) hq fun i hi hne=>if_neg ?_]
   ·have:decide ((kd q:Int)=(s:Int))=decide (kd q=s):=by rw [decide_eq_decide];omega
    rw [this,hgq]
    simp
   ·intro e
    rw [Bool.and_eq_true,decide_eq_true_eq] at e
    have hl:=h.len
    change g.length=m at hl
    exact hne (cnt_uniq (j:=(j:Int)) (by omega) (h.one (j:Int) (by omega)) (by rw [hl];exact hi) (by rw [hl];exact hq) e.1 hgq)
 rw [rsum_congr h1,rsum_swap]
 refine rsum_congr fun i hi=>?_
 rcases h.rng i hi with e | ⟨e1,e2,_⟩
 ·change g.getD i 0=-1 at e
  rw [rsum_congr (g:=fun _=>0) fun j hj=>if_neg ?_,rsum_zero,e]
  ·simp
  ·rw [e]
   simp
 ·change 0≤g.getD i 0 at e1
  change g.getD i 0<(J:Int) at e2
  have e3:¬g.getD i 0=-1:=by omega
  rw [rsum_single (k:=(g.getD i 0).toNat) (by omega) fun j hj hne=>if_neg ?_]
  ·have e4:g.getD i 0=(((g.getD i 0).toNat:Nat):Int):=by omega
   rw [←e4]
   simp only [e3,decide_true,decide_false,Bool.true_and,Bool.not_false,Bool.and_true]
  ·simp only [Bool.and_eq_true,decide_eq_true_eq,not_and]
   intro e
   omega
theorem lackU_most {fit:List (List Int)} {caps:List Int} {F:Nat} (hF:m<F) (hJ:fit.length=J) (hfr:∀ l∈fit,∀ s∈l,0≤s∧s<(caps.length:Int)) (hcaps:∀ s,s<caps.length→caps.getD s 0=(((List.range m).countP fun i=>decide (kd i=s):Nat):Int))
  (hgd:∀ i,i<m→∀ j:Nat,j<J→(gd i (j:Int)=true↔(kd i:Int)∈fitOf fit (j:Int))):(lackU gd m J F).2=(J:Int) - mostL fit caps:=by
 have h:=lackU_inv gd m J F hF
 revert h
 generalize lackU gd m J F=st
 obtain ⟨g,n0⟩:=st
 intro h
 have hfit:∀ j s,s∈fitOf fit j→0≤s∧s<(caps.length:Int):=fun j s hs=>by
  by_cases hk:j.toNat<fit.length
  ·have hm:fitOf fit j∈fit:=by unfold fitOf;rw [List.getD_eq_getElem?_getD,List.getElem?_eq_getElem hk];exact List.getElem_mem hk
   exact hfr _ hm s hs
  ·unfold fitOf at hs
   rw [List.getD_eq_getElem?_getD,List.getElem?_eq_none (by omega)] at hs
   cases hs
 obtain ⟨C,hC,hC1,hC2⟩:=h.closed
 have hinv:WInv caps.length fit caps fit.length (workU kd g m J):=by
  refine ⟨by rw [workU_len,hJ],fun s h0 hn=>?_,fun j hj=>?_,fun i h1 h2=>by omega,C,fun j hj s hs=>?_,fun c hc=>by have:=hC1 c hc;omega,fun j hj hu=>?_⟩
  ·obtain ⟨k,rfl⟩:=Int.eq_ofNat_of_zero_le h0
   rw [workU_hold h k,Int.toNat_natCast,hcaps k (by omega)]
   have:((List.range m).countP fun i=>decide (kd i=k)&&!decide (g.getD i 0=-1))≤(List.range m).countP fun i=>decide (kd i=k):=List.countP_mono_left fun i _ hi=>by
    rw [Bool.and_eq_true] at hi
    exact hi.1
   omega
  ·rw [hJ] at hj
   by_cases e:(workU kd g m J).getD j 0=-1
   ·exact .inl e
   ·right
    have hc:¬cnt g (j:Int)=0:=fun hc=>e (workU_none h hj hc)
    have hp:0<cnt g (j:Int):=by omega
    unfold cnt at hp
    rw [List.countP_pos_iff] at hp
    obtain ⟨x,hx,hxe⟩:=hp
    obtain ⟨q,hq,rfl⟩:=List.mem_iff_getElem.1 hx
    have hl:=h.len
    change g.length=m at hl
    have hgq:g.getD q 0=(j:Int):=by
     rw [List.getD_eq_getElem?_getD,List.getElem?_eq_getElem hq]
     simpa using hxe
    rw [workU_some h hj (by rw [←hl];exact hq) hgq]
    rcases h.rng q (by rw [←hl];exact hq) with e | ⟨_,_,e⟩
    ·change g.getD q 0=-1 at e
     omega
    ·change gd q (g.getD q 0)=true at e
     rw [hgq] at e
     exact (hgd q (by rw [←hl];exact hq) j hj).1 e
  ·have hj1:=hC1 j hj
   have hjn:j=((j.toNat:Nat):Int):=by omega
   have hsr:=hfit j s hs
   obtain ⟨k,rfl⟩:=Int.eq_ofNat_of_zero_le hsr.1
   have hall:∀ i,i<m→kd i=k→g.getD i 0≠-1∧C (g.getD i 0):=fun i hi hk=>by
    refine hC j hj i hi ?_
    rw [hjn]
    refine (hgd i hi j.toNat (by omega)).2 ?_
    rw [hk,←hjn];exact hs
   refine ⟨?_,fun o ho=>?_⟩
   ·unfold FullS
    rw [workU_hold h k,Int.toNat_natCast,hcaps k (by omega)]
    have:((List.range m).countP fun i=>decide (kd i=k))=(List.range m).countP fun i=>decide (kd i=k)&&!decide (g.getD i 0=-1):=List.countP_congr fun i hi=>by
     constructor
     ·intro h
      rw [Bool.and_eq_true]
      refine ⟨h,?_⟩
      have:=(hall i (List.mem_range.1 hi) (by simpa using h)).1
      simp only [Bool.not_eq_true',decide_eq_false_iff_not]
      exact this
     ·intro h
      rw [Bool.and_eq_true] at h
      exact h.1
    omega
   ·have hm:=mem_holdV.1 ho
    rw [workU_len] at hm
    obtain ⟨i,hi,h1,h2⟩:=workU_ex h (by omega) (by omega) hm.2.2
    have:=(hall i hi (by omega)).2
    rw [h1] at this
    rw [show o=((o.toNat:Nat):Int) from by omega]
    exact this
  ·rw [hJ] at hj
   exact hC2 j hj ((workU_minus h hj).1 hu)
 have hcut:=task_cut0 rfl hfr (fun i hi=>by rw [hcaps i hi];omega) hinv
 have h6:n0=((holdV (workU kd g m J) (-1)).length:Int):=by
  have:=h.num
  change n0=_ at this
  rw [this,holdV_count,workU_len]
  congr 1
  refine List.countP_congr fun j hj=>?_
  simp only [decide_eq_true_eq]
  exact (workU_minus h (List.mem_range.1 hj)).symm
 have h7:=hcut.1
 rw [hJ] at h7
 show n0=_
 omega
end
end Go.Fer
namespace Go.Fer
open M (Step)
set_option linter.unusedVariables false
set_option linter.unusedSimpArgs false
def goodT (t:Sto) (sp:Int×Int) (j:Job):Bool:=decide (sp.2≤j.2.2)&&decide ((mlkT t.2.2 (sp.1,j.1,j.2.1)).getD 0 > 0)
abbrev fcGood:FC:=⟨.prod tSto (.prod tSp tJb),tB,fun x=>∃ t,x.1=some t,fun x=>goodT (x.1.getD dSto) x.2.1 x.2.2⟩
theorem sOGood (x):M.le (S_orders_store_good x) (fcGood.sh x):=M.le_det fun h=>by
 obtain ⟨o,sp,j⟩:=x
 obtain ⟨t,hf⟩:=h
 change o=_ at hf
 subst hf
 unfold S_orders_store_good
 simp only [Option.isSome_some,Option.getD_some,and_true,true_and,and_self,imp_self,implies_true,M.req_True]
 rfl
def canT (t:Sto) (l:List Job):Bool:=l.all fun j=>(List.range t.1.2.1.length).any fun (i:Nat)=>goodT t ((i:Int),0) j
abbrev fcCan8:FC:=⟨.prod tSto (.slice tJb),tB,fun x=>∃ t,x.1=some t∧t.1.2.1.length<2 ^ 63∧x.2.length<2 ^ 63,fun x=>canT (x.1.getD dSto) x.2⟩
theorem eOCan (t:Sto) (l:List Job) (h1:t.1.2.1.length<2 ^ 63) (h2:l.length<2 ^ 63):S_orders_store_can fcGood.sh (some t,l)=M.pure (canT t l):=by
 unfold S_orders_store_can
 rw [M.loop_listT l (fun i (_:Unit)=>(some t,l,(l.length:Int),(i:Int),())) (fun j b=>if (!(List.range t.1.2.1.length).any fun (i:Nat)=>goodT t ((i:Int),0) j)=true then .done (.done false) else .next b) (fun _=>.next ()) () ?_ ?_ ?_]
 ·rw [foldS_anyN (q:=fun j=>(List.range t.1.2.1.length).any fun (i:Nat)=>goodT t ((i:Int),0) j) _ _ (fun _=>rfl)]
  unfold canT
  cases l.all fun j=>(List.range t.1.2.1.length).any fun (i:Nat)=>goodT t ((i:Int),0) j<;>simp
 ·rfl
 ·intro i hi b
  have hw:=wrap64 (n:=(i:Int)+1) (by omega) (by omega)
  simp only [ofNat_def,lt_len hi,if_true,getD_nat hi,in_len hi,M.req_True,Option.isSome_some,Option.getD_some]
  rw [M.loop_listT (List.range t.1.2.1.length) (fun k (b:Bool)=>(some t,b,l,(l.length:Int),(i:Int),(t.1.2.1.length:Int),(k:Int),l[i],())) (fun (k:Nat) b=>.next (b||goodT t ((k:Int),0) l[i])) (fun b=>.next (some t,b,l,(l.length:Int),(i:Int),())) false ?_ ?_ ?_]
  ·rw [foldS_next]
   have e:∀ (r:List Nat) (b:Bool),r.foldl (fun (b:Bool) (k:Nat)=>b||goodT t ((k:Int),0) l[i]) b=(b||r.any fun (k:Nat)=>goodT t ((k:Int),0) l[i]):=by
    intro r
    induction r with
    | nil=>simp
    | cons k r ih=>intro b;rw [List.foldl_cons,ih,List.any_cons,Bool.or_assoc]
   rw [e,Bool.false_or]
   simp only [M.bind_pure,M.go_next]
   cases (List.range t.1.2.1.length).any fun (k:Nat)=>goodT t ((k:Int),0) l[i]<;>simp [Step.mapN,hw]
  ·rfl
  ·intro k hk b
   have hk:k<t.1.2.1.length:=by simpa using hk
   have hwk:=wrap64 (n:=(k:Int)+1) (by omega) (by omega)
   simp only [lt_len hk,if_true,List.getElem_range,FC.sh,M.gdo_det,M.bind_det]
   rw [M.req_true (by exact fun _=>⟨t,rfl⟩)]
   simp only [Option.getD_some,add_def,hwk,Step.mapN]
   cases b<;>simp
  ·intro b
   simp
 ·intro b
  simp
theorem sOCan (x):M.le (S_orders_store_can fcGood.sh x) (fcCan8.sh x):=M.le_det fun h=>by
 obtain ⟨o,l⟩:=x
 obtain ⟨t,hf,h1,h2⟩:=h
 change o=_ at hf
 subst hf
 exact eOCan t l h1 h2
def gdT (t:Sto) (l:List Job) (i:Nat) (j:Int):Bool:=goodT t (t.2.1.getD i (0,0)) (l.getD j.toNat (0,0,0))
abbrev UIn:=Option Sto×List Job×Int×List (Int×Int)×List Int×Unit
abbrev UOut:=Bool×List (Int×Int)×List Int×Unit
def giveOutU (r:Bool×GSt):UOut:=(r.1,r.2.2,r.2.1,())
def UPre (f:Nat) (x:UIn):Prop:=∃ t,x.1=some t∧t.2.1.length≤200∧x.2.1.length≤1000∧0≤x.2.2.1∧x.2.2.1<(x.2.1.length:Int)∧UD t.2.1.length x.2.1.length f (x.2.2.2.2.1,x.2.2.2.1)
def shGiveU (f:Nat) (x:UIn):M UOut:=M.det (UPre f x) (giveOutU (giveU (gdT (x.1.getD dSto) x.2.1) (x.1.getD dSto).2.1.length f x.2.2.1 (x.2.2.2.2.1,x.2.2.2.1)))
theorem eGiveU {t:Sto} {l:List Job} (hm:t.2.1.length≤200) (hl:l.length≤1000) {f:Nat} {own:Int} (ho0:0≤own) (hoJ:own<(l.length:Int)) {st:GSt} (h0:UD t.2.1.length l.length (f+1) st) :
  S_orders_store_give fcGood.sh (shGiveU f) (some t,l,own,st.2,st.1,())=M.pure (giveOutU (giveU (gdT t l) t.2.1.length (f+1) own st)):=by
 have hrec:=giveU_ok (gd:=gdT t l) (m:=t.2.1.length) (J:=l.length) f
 unfold S_orders_store_give
 simp only [ofNat_def,M.req_True,mval_def,Option.isSome_some,Option.getD_some]
 rw [M.loop_list (List.range t.2.1.length) (fun i (b:GSt)=>(some t,l,own,t.2.1,(t.2.1.length:Int),(i:Int),b.2,b.1,())) (fun i b=>Step.mapD (fun r=>.done (giveOutU r)) (uStep (gdT t l) (giveU (gdT t l) t.2.1.length f) own i b)) (fun b=>.next (b.2,b.1,())) (fun i b=>b.1=st.1∧∀ q,mval st.2 q≤mval b.2 q∧mval b.2 q≤1) st ?_ ?_ ?_ ?_]
 ·show _=M.pure (giveOutU (foldS (uStep (gdT t l) (giveU (gdT t l) t.2.1.length f) own) (fun st=>(false,st)) (List.range t.2.1.length) st))
  rw [foldS_P,foldS_P,foldP_mapD]
  cases foldP (uStep (gdT t l) (giveU (gdT t l) t.2.1.length f) own) (List.range t.2.1.length) st<;>(simp only [Step.mapD,Step.fin,M.bind_pure,M.go_next,M.go_done];try rfl)
 ·rfl
 ·exact ⟨rfl,fun q=>⟨Int.le_refl _,(h0.seen q).2⟩⟩
 ·intro i hi b hb
  have hi:i<t.2.1.length:=by simpa using hi
  have hwi:=wrap64 (n:=(i:Int)+1) (by omega) (by omega)
  rw [List.getElem_range]
  have hblen:b.1.length=t.2.1.length:=by rw [hb.1];exact h0.len
  have hib:i<b.1.length:=by omega
  have hoL:0≤own∧own<(l.length:Int):=⟨ho0,hoJ⟩
  have hmv:=hb.2 (i:Int)
  have hs0:=h0.seen (i:Int)
  simp only [ofNat_def,lt_len hi,if_true,in_len hi,in_len hib,M.req_True,hoL,FC.sh,M.safe_det,M.val_det,Int.toNat_natCast,Option.getD_some]
  have hgd:goodT t (t.2.1.getD i (0,0)) (l.getD own.toNat (0,0,0))=gdT t l i own:=rfl
  rw [hgd]
  have hgp:(∃ t',(some t:Option Sto)=some t')=True:=by simp
  simp only [hgp,and_true,true_and,and_self,imp_self,implies_true,M.req_True]
  by_cases hsn:mval b.2 (i:Int) > 0
  ·have hu:uStep (gdT t l) (giveU (gdT t l) t.2.1.length f) own i b=.next b:=by unfold uStep;rw [if_pos (by simp [hsn])]
   rw [hu]
   refine ⟨?_,fun b' hb'=>by cases hb';exact hb⟩
   simp only [hsn,decide_true,Bool.true_or,if_true,M.bind_pure,M.go_next,add_def,hwi,Step.mapN,Step.mapD,Bool.not_true,Bool.false_eq_true,false_imp_iff,Bool.true_eq_false,M.req_True,and_self,implies_true]
   rfl
  ·by_cases hg:gdT t l i own=true
   ·have hz:mval b.2 (i:Int)=0:=by omega
    have hwm:=wrap64 (n:=mval b.2 (i:Int)+1) (by omega) (by omega)
    have hm1:∀ q,mval b.2 q≤mval (msetI b.2 (i:Int) (mval b.2 (i:Int)+1)) q∧mval (msetI b.2 (i:Int) (mval b.2 (i:Int)+1)) q≤1:=fun q=>by
     have:=hb.2 q
     rw [mval_mset];split
     ·rename_i e;rw [e];omega
     ·omega
    have hnc:¬(decide (mval b.2 (i:Int) > 0)||!gdT t l i own)=true:=by simp [hsn,hg]
    by_cases hf:b.1.getD i 0=-1
    ·have hu:uStep (gdT t l) (giveU (gdT t l) t.2.1.length f) own i b=.done (true,(b.1.set i own,msetI b.2 (i:Int) (mval b.2 (i:Int)+1))):=by
      unfold uStep;rw [if_neg hnc,if_pos (by simpa using hf)]
     rw [hu]
     refine ⟨?_,fun b' hb'=>by cases hb'⟩
     simp only [hsn,hg,hf,decide_true,decide_false,Bool.not_true,Bool.not_false,Bool.or_self,Bool.false_eq_true,if_false,if_true,false_imp_iff,Bool.true_eq_false,Bool.true_or,M.req_True,M.bind_pure,M.go_done,add_def,hwm,in_len hib,Step.mapN,Step.mapD,and_self,implies_true,true_imp_iff]
     rfl
    ·have hrng:=h0.rng i hi
     have hj:0≤b.1.getD i 0∧b.1.getD i 0<(l.length:Int):=by rw [hb.1] at hf ⊢;rcases hrng with h | h;exact absurd h hf;exact h
     have hud:UD t.2.1.length l.length f (b.1,msetI b.2 (i:Int) (mval b.2 (i:Int)+1)):=by
      refine ⟨hblen,?_,fun k=>⟨?_,(hm1 k).2⟩,?_⟩
      ·show URng _ _ b.1
       rw [hb.1];exact h0.rng
      ·have:=(hm1 k).1;have:=hb.2 k;have:=(h0.seen k).1
       show 0≤mval (msetI b.2 (i:Int) (mval b.2 (i:Int)+1)) k
       omega
      ·have h1:=unas_mark (n:=t.2.1.length) (m:=b.2) (s:=(i:Int)) (v:=mval b.2 (i:Int)+1) (by omega) (by omega) hz (by omega)
       have h2:=unas_mono (n:=t.2.1.length) (a:=st.2) (b:=b.2) fun k=>⟨(h0.seen k).1,(hb.2 k).1⟩
       have h3:=h0.fuel
       show unas _ (msetI b.2 (i:Int) (mval b.2 (i:Int)+1))<f
       omega
     obtain ⟨hup,hur⟩:=hrec (b.1.getD i 0) (b.1,msetI b.2 (i:Int) (mval b.2 (i:Int)+1)) hj.1 hj.2 hud
     have hpre:UPre f (some t,l,b.1.getD i 0,msetI b.2 (i:Int) (mval b.2 (i:Int)+1),b.1,()):=⟨t,rfl,hm,hl,hj.1,hj.2,hud⟩
     have hcall:shGiveU f (some t,l,b.1.getD i 0,msetI b.2 (i:Int) (mval b.2 (i:Int)+1),b.1,())=M.pure (giveOutU (giveU (gdT t l) t.2.1.length f (b.1.getD i 0) (b.1,msetI b.2 (i:Int) (mval b.2 (i:Int)+1)))):=M.det_true hpre _
     simp only [hsn,hg,hf,decide_true,decide_false,Bool.not_true,Bool.not_false,Bool.or_self,Bool.false_eq_true,if_false,if_true,false_imp_iff,Bool.true_eq_false,Bool.false_or,M.req_True,add_def,hwm,and_self,implies_true,true_imp_iff,hcall,M.bind_pure]
     have hrl:(giveU (gdT t l) t.2.1.length f (b.1.getD i 0) (b.1,msetI b.2 (i:Int) (mval b.2 (i:Int)+1))).2.1.length=t.2.1.length:=hup.len
     have hus:=hup.seen
     have hun:=hur.no
     have hu0:uStep (gdT t l) (giveU (gdT t l) t.2.1.length f) own i b=if (giveU (gdT t l) t.2.1.length f (b.1.getD i 0) (b.1,msetI b.2 (i:Int) (mval b.2 (i:Int)+1))).1=true then .done (true,((giveU (gdT t l) t.2.1.length f (b.1.getD i 0) (b.1,msetI b.2 (i:Int) (mval b.2 (i:Int)+1))).2.1.set i own,(giveU (gdT t l) t.2.1.length f (b.1.getD i 0) (b.1,msetI b.2 (i:Int) (mval b.2 (i:Int)+1))).2.2)) else .next (giveU (gdT t l) t.2.1.length f (b.1.getD i 0) (b.1,msetI b.2 (i:Int) (mval b.2 (i:Int)+1))).2:=by
      unfold uStep;rw [if_neg hnc,if_neg (by simpa using hf)]
     rw [hu0]
     clear hu0 hcall
     generalize giveU (gdT t l) t.2.1.length f (b.1.getD i 0) (b.1,msetI b.2 (i:Int) (mval b.2 (i:Int)+1))=r at *
     obtain ⟨ok,g',s'⟩:=r
     have hil:i<g'.length:=by rw [hrl];exact hi
     cases ok with
     | true=>
      refine ⟨?_,fun b' hb'=>by cases hb'⟩
      simp only [giveOutU,if_true,in_len hil,M.req_True,M.bind_pure,M.go_done,Step.mapN,Step.mapD]
     | false=>
      refine ⟨?_,fun b' hb'=>?_⟩
      ·simp only [giveOutU,Bool.false_eq_true,if_false,M.bind_pure,M.go_next,add_def,hwi,Step.mapN,Step.mapD]
       rfl
      ·cases hb'
       exact ⟨(hun rfl).1.trans hb.1,fun q=>⟨Int.le_trans (hb.2 q).1 (Int.le_trans (hm1 q).1 (hus q).1),(hus q).2⟩⟩
   ·have hu:uStep (gdT t l) (giveU (gdT t l) t.2.1.length f) own i b=.next b:=by unfold uStep;rw [if_pos (by simp [hg])]
    rw [hu]
    refine ⟨?_,fun b' hb'=>by cases hb';exact hb⟩
    simp only [hsn,hg,decide_false,Bool.not_false,Bool.or_true,if_true,M.bind_pure,M.go_next,add_def,hwi,Step.mapN,Step.mapD,Bool.false_eq_true,M.req_True,and_self,implies_true]
    rfl
 ·intro b hb
  simp
theorem sGiveU (f:Nat) (x):M.le (S_orders_store_give fcGood.sh (shGiveU f) x) (shGiveU (f+1) x):=M.le_det fun h=>by
 obtain ⟨o,l,own,seen,g,u⟩:=x
 obtain ⟨t,hf,hm,hl,h0,h1,hud⟩:=h
 change o=_ at hf
 subst hf
 exact eGiveU (st:=(g,seen)) hm hl h0 h1 hud
theorem shGiveU_zero (x:UIn):¬(shGiveU 0 x).safe:=fun ⟨_,_,_,_,_,_,h⟩=>absurd h.fuel (by omega)
def lackT (t:Sto) (l:List Job):Int:=(lackU (gdT t l) t.2.1.length l.length 201).2
abbrev fcLack8:FC:=⟨.prod tSto (.slice tJb),tI,fun x=>∃ t,x.1=some t∧t.2.1.length≤200∧x.2.length≤1000,fun x=>lackT (x.1.getD dSto) x.2⟩
theorem eOLack (t:Sto) (l:List Job) (hm:t.2.1.length≤200) (hl:l.length≤1000):S_orders_store_lacking shRepIO (shGiveU 201) (some t,l)=M.pure (lackT t l):=by
 unfold S_orders_store_lacking
 simp only [ofNat_def,Option.isSome_some,Option.getD_some,M.req_True]
 unfold shRepIO
 simp only [M.bind_det]
 rw [M.req_true (by exact ⟨trivial,by omega,by omega⟩)]
 simp only [Int.toNat_natCast]
 rw [M.loop_list (List.range l.length) (fun i (b:List Int×Int)=>(some t,l,b.2,(l.length:Int),(i:Int),b.1,())) (fun i b=>.next (lackStep (gdT t l) t.2.1.length 201 b i)) (fun b=>.next (b.2,())) (fun i b=>GInv (gdT t l) t.2.1.length l.length i b∧0≤b.2∧b.2≤(i:Int)) (List.replicate t.2.1.length (-1),0) ?_ ?_ ?_ ?_]
 ·rw [foldS_next,M.bind_pure,M.go_next]
  rfl
 ·rfl
 ·refine ⟨?_,by simp⟩
  have:=lackU_inv (gdT t l) t.2.1.length 0 201 (by omega)
  exact ⟨this.len,this.rng,this.one,this.num,this.closed⟩
 ·intro i hi b hb
  have hi:i<l.length:=by simpa using hi
  have hwi:=wrap64 (n:=(i:Int)+1) (by omega) (by omega)
  rw [List.getElem_range]
  obtain ⟨g,n⟩:=b
  obtain ⟨hb,hn0,hn1⟩:=hb
  change 0≤n at hn0
  change n≤(i:Int) at hn1
  have hwn:=wrap64 (n:=n+1) (by omega) (by omega)
  have hpre:UPre 201 (some t,l,(i:Int),[],g,()):=by
   refine ⟨t,rfl,hm,hl,Int.natCast_nonneg i,Int.ofNat_lt.2 hi,hb.len,fun k hk=>?_,fun k=>by show 0≤mval [] k∧mval [] k≤1;simp [mval,mlkI],?_⟩
   ·rcases hb.rng k hk with h | h
    ·exact .inl h
    ·exact .inr ⟨h.1,Int.lt_trans h.2.1 (Int.ofNat_lt.2 hi)⟩
   ·have:unas t.2.1.length []≤t.2.1.length:=by
     unfold unas
     exact Nat.le_trans List.countP_le_length (by simp)
    show unas t.2.1.length []<201
    omega
  have hcall:shGiveU 201 (some t,l,(i:Int),[],g,())=M.pure (giveOutU (giveU (gdT t l) t.2.1.length 201 (i:Int) (g,[]))):=M.det_true hpre _
  have hstep:=ginv_step (F:=201) (by omega) hi hb
  refine ⟨?_,fun b' hb'=>?_⟩
  ·simp only [lt_len hi,if_true,hcall,M.bind_pure,giveOutU]
   unfold lackStep
   cases hok:(giveU (gdT t l) t.2.1.length 201 (i:Int) (g,[])).1 with
   | true=>
    simp only [Bool.not_true,Bool.false_eq_true,if_false,if_true,M.bind_pure,M.go_next,add_def,hwi,Step.mapN]
    rfl
   | false=>
    simp only [Bool.not_false,Bool.false_eq_true,if_false,if_true,M.bind_pure,M.go_next,add_def,hwi,hwn,Step.mapN]
    rfl
  ·cases hb'
   refine ⟨hstep,?_⟩
   have e1:(0:Int)≤n+1:=by omega
   have e2:n+1≤((i+1:Nat):Int):=by omega
   have e3:n≤((i+1:Nat):Int):=by omega
   unfold lackStep
   dsimp only
   split
   ·exact ⟨hn0,e3⟩
   ·exact ⟨e1,e2⟩
 ·intro b hb
  simp
theorem sOLack (x):M.le (S_orders_store_lacking shRepIO (shGiveU 201) x) (fcLack8.sh x):=M.le_det fun h=>by
 obtain ⟨o,l⟩:=x
 obtain ⟨t,hf,h1,h2⟩:=h
 change o=_ at hf
 subst hf
 exact eOLack t l h1 h2
theorem spares_len {s:Shop} (hv:Val s):(sparesV s).length≤200:=by
 have h1:∀ (l:List Nat),(∀ i∈l,i<s.2.1.length)→(l.flatMap fun (i:Nat)=>repS ((i:Int),0) (s.2.1.getD i 0)).length≤10*l.length:=by
  intro l
  induction l with
  | nil=>simp
  | cons i l ih=>
   intro hl
   have h1:=ih fun j hj=>hl j (by simp [hj])
   have h2:=hl i (by simp)
   have h3:=hv.stock _ (List.getElem_mem h2)
   have eg:s.2.1.getD i 0=s.2.1[i]:=by simp [List.getD_eq_getElem?_getD,h2]
   rw [List.flatMap_cons,List.length_append,List.length_cons,eg]
   simp only [repS,List.length_replicate]
   simp only [repS] at h1
   omega
 have h2:∀ (l:List De),(∀ d∈l,delivV s.1 d=true)→(l.flatMap fun d=>repS (d.2.1,d.1) d.2.2).length≤10*l.length:=by
  intro l
  induction l with
  | nil=>simp
  | cons d l ih=>
   intro hl
   have h1:=ih fun j hj=>hl j (by simp [hj])
   have h3:=hl d (by simp)
   simp only [delivV,inR,Bool.and_eq_true,decide_eq_true_eq] at h3
   rw [List.flatMap_cons,List.length_append,List.length_cons]
   simp only [repS,List.length_replicate]
   simp only [repS] at h1
   omega
 have a:=h1 (List.range s.2.1.length) fun i hi=>by simpa using hi
 have b:=h2 s.2.2.2.2.1 hv.deliv
 have c:=hv.spares
 have d:=hv.delivs
 have e:=hv.stockLen
 unfold sparesV stockSp delSp
 rw [List.length_append]
 rw [List.length_range] at a
 omega
theorem jobs_len {s:Shop} (hv:Val s) {plan:List Int} (hp:planOk s plan):(jobsV s plan).1.length≤24:=by
 unfold jobsV
 split
 ·have:∀ (l:List Nat),(∀ i∈l,i<plan.length)→(l.flatMap fun i=>(placeJobs s plan i).getD []).length≤4*l.length:=by
   intro l
   induction l with
   | nil=>simp
   | cons i l ih=>
    intro hl
    have h1:=ih fun j hj=>hl j (by simp [hj])
    have h2:=hl i (by simp)
    rw [List.flatMap_cons,List.length_append,List.length_cons]
    have:((placeJobs s plan i).getD []).length≤4:=by
     cases h:placeJobs s plan i with
     | none=>simp
     | some y=>exact place_len hv hp h2 h
    omega
  have a:=this (List.range plan.length) fun i hi=>by simpa using hi
  rw [List.length_range] at a
  have:=hp.1
  have:=hv.wishes
  show (List.flatMap _ _).length≤24
  omega
 ·simp
def filledV (s:Shop) (plan:List Int):Bool:=(jobsV s plan).2&&decide (lackT (stoV s) (jobsV s plan).1=0)
abbrev fcFilled:FC:=⟨.prod tSto tInts,tB,fun x=>∃ s,isSto x.1 s∧planOk s x.2,fun x=>filledV (shopOf x.1) x.2⟩
theorem sOFilled (x):M.le (S_orders_store_filled fcJobs8.sh fcLack8.sh x) (fcFilled.sh x):=M.le_det fun h=>by
 obtain ⟨o,plan⟩:=x
 obtain ⟨s,⟨hf,hv⟩,hp⟩:=h
 change o=_ at hf
 subst hf
 unfold S_orders_store_filled
 simp only [FC.sh,M.bind_det,M.gdo_det]
 rw [M.req_true (by exact ⟨s,⟨rfl,hv⟩,hp⟩),M.req_true (by exact fun _=>⟨stoV s,rfl,spares_len hv,Nat.le_trans (jobs_len hv hp) (by omega)⟩)]
 show M.pure ((jobsV s plan).2&&decide ((if (jobsV s plan).2=true then lackT (stoV s) (jobsV s plan).1 else 0)=0))=M.pure (filledV s plan)
 unfold filledV
 cases (jobsV s plan).2<;>simp
end Go.Fer
namespace Go.Fer
open M (Step)
set_option linter.unusedVariables false
set_option linter.unusedSimpArgs false
def nextOk (s:Shop) (first:List Int) (p:Nat):Bool:=!(first.contains (p:Int)||decide (suitV (wishAt s (first.length:Int)) (pieceAt s (p:Int))=0))
def plansL (s:Shop) (e:Int):Nat→List Int→List (List Int)
 | 0,first=>[first]
 | n+1,first=>((List.range s.2.2.1.length).flatMap fun p=>if nextOk s first p=true then plansL s e n (first++[(p:Int)]) else [])++(if e=0 then [] else plansL s e n (first++[-1]))
abbrev PTr:Type:=Nat×List (List Int)×Nat×Bool
abbrev PIn:Type:=Option Sto×List Int×Int×Nat×PTr×Unit
abbrev POut:Type:=Bool×PTr×Unit
structure PPre (f:Nat) (x:PIn) (s:Shop) (n:Nat) (a b:List (List Int)):Prop where
 sto:isSto x.1 s
 len:x.2.1.length+n=s.2.2.2.1.length
 fuel:n<f
 lab:x.2.2.2.2.1.1=x.2.2.2.1
 go:x.2.2.2.2.1.2.2.2=false
 seq:x.2.2.2.2.1.2.1=a++plansL s x.2.2.1 n x.2.1++b
 pos:x.2.2.2.2.1.2.2.1=a.length
def PPost (x:PIn) (y:POut):Prop:=y.2.1.1=x.2.2.2.1∧y.2.1.2.1=x.2.2.2.2.1.2.1∧(y.1=true→y.2.1.2.2.2=false∧y.2.1.2.2.1=x.2.2.2.2.1.2.2.1+(plansL (shopOf x.1) x.2.2.1 ((shopOf x.1).2.2.2.1.length - x.2.1.length) x.2.1).length)∧(y.1=false→y.2.1.2.2.2=true)
def shPlans (f:Nat) (x:PIn):M POut:=⟨∃ s n a b,PPre f x s n a b,PPost x⟩
def plansTo (s:Shop) (e:Int) (n:Nat) (first:List Int) (k:Nat):List (List Int):=(List.range k).flatMap fun p=>if nextOk s first p=true then plansL s e n (first++[(p:Int)]) else []
theorem plansTo_succ (s:Shop) (e:Int) (n:Nat) (first:List Int) (k:Nat):plansTo s e n first (k+1)=plansTo s e n first k++(if nextOk s first k=true then plansL s e n (first++[(k:Int)]) else []):=by
 unfold plansTo
 rw [List.range_succ,List.flatMap_append]
 simp
theorem plansTo_pre (s:Shop) (e:Int) (n:Nat) (first:List Int) {k m:Nat} (h:k≤m):∃ t,plansTo s e n first m=plansTo s e n first k++t:=by
  induction m with
  | zero => have : k = 0 := by omega
            subst this;exact ⟨[],by simp⟩
  | succ m ih=>
    by_cases hk:k=m+1
    · subst hk;exact ⟨[],by simp⟩
    · obtain ⟨t,ht⟩:=ih (by omega)
      rw [plansTo_succ,ht,List.append_assoc]
      exact ⟨_,rfl⟩
theorem rPlans {f:Nat} {s:Shop} (hv:Val s) {first:List Int} {e:Int} {l:Nat} {L:List (List Int)} {n:Nat} (hlen:first.length+n=s.2.2.2.1.length) (hf:n<f+1) {a b:List (List Int)} (hL:L=a++plansL s e n first++b) :
  M.Ret (S_orders_store_plans fcSuit.sh (shPlans f) fcIn.sh (some (stoV s),first,e,l,(l,L,a.length,false),())) fun y=>y.2.1.1=l∧y.2.1.2.1=L∧(y.1=true→y.2.1.2.2.2=false∧y.2.1.2.2.1=a.length+(plansL s e n first).length)∧(y.1=false→y.2.1.2.2.2=true):=by
 have hst:(stoV s).1=s:=rfl
 have hw6:=hv.wishes
 have hp8:=hv.pieces
 unfold S_orders_store_plans
 simp only [Option.isSome_some,Option.getD_some,M.req_True,ofNat_def,hst]
 cases n with
 | zero=>
  have hd:decide ((first.length:Int)=(s.2.2.2.1.length:Int))=true:=by simp;omega
  have hg:L[a.length]?=some first:=by
   rw [hL,List.append_assoc,List.getElem?_append_right (Nat.le_refl _)]
   simp [plansL]
  have hg':List.get?Internal L a.length=some first:=hg
  simp only [hd,if_true,hg',true_and,M.req_True,M.ret_bind,and_self]
  refine ⟨⟨true,trivial⟩,fun y _=>M.ret_pure.2 ?_⟩
  refine ⟨rfl,rfl,fun h=>?_,fun h=>?_⟩
  ·change y=true at h
   subst h
   exact ⟨rfl,rfl⟩
  ·change y=false at h
   subst h
   rfl
 | succ n=>
  have hd:decide ((first.length:Int)=(s.2.2.2.1.length:Int))=false:=by simp;omega
  simp only [hd,Bool.false_eq_true,if_false,M.ret_bind]
  obtain ⟨z,hz⟩:∃ z,plansL s e (n+1) first=plansTo s e n first s.2.2.1.length++z:=⟨_,rfl⟩
  refine M.ret_loop_n s.2.2.1.length (fun k q=>q=(some (stoV s),first,e,l,(first.length:Int),s.2.2.1,(s.2.2.1.length:Int),(k:Int),(l,L,(a++plansTo s e n first k).length,false),())) ?_ ?_ ?_
  ·show _=_
   simp [plansTo]
  ·rintro k hk q rfl
   have hwk:=wrap64 (n:=(k:Int)+1) (by omega) (by omega)
   have hfl:first.length<2 ^ 63:=by omega
   have hiw:first.length<s.2.2.2.1.length:=by omega
   have hxm:=wishAt_mem hiw
   have ewi:List.getD s.2.2.2.1 first.length ([],(0,0),0,0,0)=wishAt s (first.length:Int):=rfl
   have epc:s.2.2.1[k]=pieceAt s (k:Int):=by simp [pieceAt,List.getD_eq_getElem?_getD,hk]
   have hsp:fcSuit.pre (wishAt s (first.length:Int),pieceAt s (k:Int)):=hv.small.2.2.2.2.2.2 _ hxm
   have hip:(first.length<2 ^ 63)=True:=by simp;omega
   simp only [lt_len hk,if_true,in_len hk,getD_nat hk,M.req_True,FC.sh,M.safe_det,M.val_det,hip,hst,Int.toNat_natCast,in_len hiw,ewi,epc,and_true,true_and,and_self,imp_self,implies_true]
   have hsp':((wishAt s (first.length:Int)).1.length<2 ^ 63)=True:=by simp;have:=hv.small.2.2.2.2.2.2 _ hxm;omega
   have epc2:List.getD s.2.2.1 k (0,0,0,0,[])=pieceAt s (k:Int):=rfl
   have hne:first.contains (k:Int)=false→(!first.contains (k:Int))=true:=fun h=>by rw [h];rfl
   have hr0:((0:Int)≤0∧0≤(first.length:Int)∧(first.length:Int)≤(first.length:Int))=True:=by simp
   have htk:List.take first.length first=first:=List.take_length
   have hll:(0<Add.add 0 1∧lenLe (Add.add first.length (Add.add 0 1))):=⟨by decide,by show lenLe (first.length+1);unfold lenLe;omega⟩
   have hA:(first.contains (k:Int)||decide (suitV (wishAt s (first.length:Int)) (pieceAt s (k:Int))=0))=!nextOk s first k:=by unfold nextOk;simp
   have hmem:first.contains (k:Int)=first.contains (k:Int):=rfl
   simp only [Option.isSome_some,Option.getD_some,hst,in_len hiw,ewi,epc2,hsp',and_true,true_and,and_self,imp_self,implies_true,M.req_True,M.req_true hne,hA,hr0,htk]
   rw [M.req_true (by exact hll)]
   obtain ⟨t,ht⟩:=plansTo_pre s e n first (show k+1≤s.2.2.1.length by omega)
   cases hn:nextOk s first k with
   | false=>
    simp only [Bool.not_false,if_true,M.bind_pure,M.go_next,M.ret_pure,add_def,hwk]
    show _=_
    rw [plansTo_succ,hn]
    simp
   | true=>
    rw [plansTo_succ,hn,if_pos rfl] at ht
    simp only [Bool.not_true,Bool.false_eq_true,if_false,M.ret_bind]
    have hpp:PPre f (some (stoV s),first++[(k:Int)],e,l,(l,L,(a++plansTo s e n first k).length,false),()) s n (a++plansTo s e n first k) (t++z++b):=by
     refine ⟨⟨rfl,hv⟩,by show (first++[(k:Int)]).length+n=_;simp;omega,by omega,rfl,rfl,?_,rfl⟩
     show L=_
     rw [hL,hz,ht]
     simp only [List.append_assoc]
    refine ⟨⟨s,n,_,_,hpp⟩,fun y hy=>?_⟩
    obtain ⟨y1,⟨yl,yL,yp,ys⟩,yu⟩:=y
    obtain ⟨q1,q2,q3,q4⟩:=hy
    change yl=l at q1
    change yL=L at q2
    subst q1;subst q2
    cases y1 with
    | false=>
     have h4:ys=true:=q4 rfl
     subst h4
     simp only [Bool.not_false,if_true,M.bind_pure,M.ret_pure,M.go_done]
     exact ⟨trivial,trivial,fun h=>(by cases h),fun _=>trivial⟩
    | true=>
     obtain ⟨h5,h6⟩:=q3 rfl
     change ys=false at h5
     change yp=(a++plansTo s e n first k).length+(plansL s e (s.2.2.2.1.length - (first++[(k:Int)]).length) (first++[(k:Int)])).length at h6
     have hnn:s.2.2.2.1.length - (first++[(k:Int)]).length=n:=by simp;omega
     rw [hnn] at h6
     subst h5;subst h6
     simp only [Bool.not_true,Bool.false_eq_true,if_false,M.bind_pure,M.ret_pure,M.go_next,add_def,hwk]
     show _=_
     rw [plansTo_succ,hn,if_pos rfl]
     simp [Nat.add_assoc]
  ·rintro q rfl
   have htk:List.take first.length first=first:=List.take_length
   have hr0:((0:Int)≤0∧0≤(first.length:Int)∧(first.length:Int)=(first.length:Int)∧(first.length:Int)≤(first.length:Int))=True:=by simp
   have hll:(0<Add.add 0 1∧lenLe (Add.add first.length (Add.add 0 1))):=⟨by decide,by show lenLe (first.length+1);unfold lenLe;omega⟩
   simp only [Int.lt_irrefl,decide_false,Bool.false_eq_true,if_false,M.bind_pure,M.ret_pure,M.go_next,hr0,htk,Int.toNat_natCast,and_true]
   by_cases he:e=0
   ·have hz':plansL s e (n+1) first=plansTo s e n first s.2.2.1.length:=by
     show plansTo s e n first s.2.2.1.length++(if e=0 then [] else plansL s e n (first++[-1]))=_
     rw [if_pos he,List.append_nil]
    simp only [he,decide_true,Bool.not_true,Bool.false_eq_true,if_false,false_imp_iff,M.req_True,Bool.true_or,M.ret_pure,Bool.true_eq_false,and_self,implies_true]
    rw [he] at hz'
    refine ⟨trivial,trivial,fun _=>⟨trivial,?_⟩,trivial⟩
    rw [hz',List.length_append]
   ·have hz':plansL s e (n+1) first=plansTo s e n first s.2.2.1.length++plansL s e n (first++[-1]):=by
     show plansTo s e n first s.2.2.1.length++(if e=0 then [] else plansL s e n (first++[-1]))=_
     rw [if_neg he]
    simp only [he,decide_false,Bool.not_false,if_true,true_imp_iff,M.req_True,Bool.false_or,and_self,implies_true]
    rw [M.req_true (by simp),M.req_true (by exact hll)]
    have hpp:PPre f (some (stoV s),first++[-1],e,l,(l,L,(a++plansTo s e n first s.2.2.1.length).length,false),()) s n (a++plansTo s e n first s.2.2.1.length) b:=by
     refine ⟨⟨rfl,hv⟩,by show (first++[(-1:Int)]).length+n=_;simp;omega,by omega,rfl,rfl,?_,rfl⟩
     show L=_
     rw [hL,hz']
     simp only [List.append_assoc]
    rw [M.ret_bind]
    refine ⟨⟨s,n,_,_,hpp⟩,fun y hy=>M.ret_pure.2 ?_⟩
    obtain ⟨y1,⟨yl,yL,yp,ys⟩,yu⟩:=y
    obtain ⟨q1,q2,q3,q4⟩:=hy
    refine ⟨q1,q2,fun h=>?_,q4⟩
    obtain ⟨h5,h6⟩:=q3 h
    change yp=(a++plansTo s e n first s.2.2.1.length).length+(plansL s e (s.2.2.2.1.length - (first++[(-1:Int)]).length) (first++[-1])).length at h6
    have hnn:s.2.2.2.1.length - (first++[(-1:Int)]).length=n:=by simp;omega
    rw [hnn] at h6
    refine ⟨h5,?_⟩
    show yp=_
    rw [h6,hz']
    simp [Nat.add_assoc]
theorem sPlans (f:Nat) (x):M.le (S_orders_store_plans fcSuit.sh (shPlans f) fcIn.sh x) (shPlans (f+1) x):=fun h=>by
 obtain ⟨o,first,e,l,⟨l',L,p,st⟩,u⟩:=x
 obtain ⟨s,n,a,b,hp⟩:=h
 obtain ⟨⟨hf,hv⟩,h1,h2,h3,h4,h5,h6⟩:=hp
 change o=_ at hf
 change l'=l at h3
 change st=false at h4
 change p=a.length at h6
 change L=_ at h5
 change first.length+n=_ at h1
 change _ at h5
 subst hf;subst h3;subst h4;subst h6
 have hnn:(shopOf (some (stoV s))).2.2.2.1.length - first.length=n:=by show s.2.2.2.1.length - first.length=n;omega
 refine M.Ret.mono (rPlans hv h1 h2 h5) fun y hy=>⟨hy.1,hy.2.1,fun h=>?_,hy.2.2.2⟩
 obtain ⟨k1,k2⟩:=hy.2.2.1 h
 refine ⟨k1,?_⟩
 rw [k2]
 show _=a.length+(plansL (shopOf (some (stoV s))) e ((shopOf (some (stoV s))).2.2.2.1.length - first.length) first).length
 rw [hnn]
 rfl
theorem shPlans_zero (x):¬(shPlans 0 x).safe:=fun ⟨s,n,a,b,h⟩=>by have:=h.fuel;omega
def seqP (e:Int) (s:Shop):List (List Int):=plansL s e s.2.2.2.1.length []
def plansPre (o:Option Sto):Prop:=∃ s,isSto o s
def allSeq (o:Option Sto):List (List Int):=seqP 1 (shopOf o)
def fullSeq (o:Option Sto):List (List Int):=seqP 0 (shopOf o)
theorem rAll (s:Shop) (hv:Val s) (l:Nat):M.Ret (S_orders_store_all (shPlans 10) (some (stoV s),l,(l,seqP 1 s,0,false),())) fun y=>y.1.1=l∧y.1.2.1=seqP 1 s∧(y.1.2.2.2=false→y.1.2.2.1=(seqP 1 s).length):=by
 unfold S_orders_store_all
 rw [M.ret_bind]
 have hw6:=hv.wishes
 refine ⟨⟨s,s.2.2.2.1.length,[],[],⟨rfl,hv⟩,by show ([]:List Int).length+_=_;simp,by omega,rfl,rfl,by show seqP 1 s=_;simp [seqP],rfl⟩,fun y hy=>M.ret_pure.2 ?_⟩
 obtain ⟨q1,q2,q3,q4⟩:=hy
 refine ⟨q1,q2,fun h=>?_⟩
 cases h1:y.1 with
 | false=>have h1':=q4 h1;change y.2.1.2.2.2=false at h;rw [h1'] at h;cases h
 | true=>
  obtain ⟨_,h3⟩:=q3 h1
  show y.2.1.2.2.1=_
  rw [h3]
  show 0+(plansL s 1 (s.2.2.2.1.length - 0) []).length=_
  rw [Nat.zero_add]
  rfl
theorem rFull (s:Shop) (hv:Val s) (l:Nat):M.Ret (S_orders_store_full (shPlans 10) (some (stoV s),l,(l,seqP 0 s,0,false),())) fun y=>y.1.1=l∧y.1.2.1=seqP 0 s∧(y.1.2.2.2=false→y.1.2.2.1=(seqP 0 s).length):=by
 unfold S_orders_store_full
 rw [M.ret_bind]
 have hw6:=hv.wishes
 refine ⟨⟨s,s.2.2.2.1.length,[],[],⟨rfl,hv⟩,by show ([]:List Int).length+_=_;simp,by omega,rfl,rfl,by show seqP 0 s=_;simp [seqP],rfl⟩,fun y hy=>M.ret_pure.2 ?_⟩
 obtain ⟨q1,q2,q3,q4⟩:=hy
 refine ⟨q1,q2,fun h=>?_⟩
 cases h1:y.1 with
 | false=>have h1':=q4 h1;change y.2.1.2.2.2=false at h;rw [h1'] at h;cases h
 | true=>
  obtain ⟨_,h3⟩:=q3 h1
  show y.2.1.2.2.1=_
  rw [h3]
  show 0+(plansL s 0 (s.2.2.2.1.length - 0) []).length=_
  rw [Nat.zero_add]
  rfl
end Go.Fer
namespace Go.Fer
open M (Step)
set_option linter.unusedVariables false
set_option linter.unusedSimpArgs false
theorem rounds_fold {σ α:Type} {body:σ→α→M (Ex×σ)} (g:σ→α→σ) (I:σ→Prop):∀ (l:List α) (s:σ),I s→(∀ x∈l,∀ s,I s→body s x=M.pure (Ex.normal,g s x)∧I (g s x))→rounds body l s=M.pure (Ex.normal,l.foldl g s)
 | [],s,_,_=>rfl
 | x::l,s,hI,h=>by
  obtain ⟨h1,h2⟩:=h x (by simp) s hI
  unfold rounds
  rw [h1,M.bind_pure]
  exact rounds_fold g I l (g s x) h2 fun y hy=>h y (List.mem_cons_of_mem _ hy)
theorem plansL_mem {s:Shop} {e:Int}:∀ {n:Nat} {first y:List Int},y∈plansL s e n first→y.length=first.length+n∧∀ p∈y,p∈first∨p=-1∨(0≤p∧p<(s.2.2.1.length:Int))
 | 0,first,y,h=>by
  simp only [plansL,List.mem_singleton] at h
  subst h
  exact ⟨rfl,fun p hp=>.inl hp⟩
 | n+1,first,y,h=>by
  simp only [plansL,List.mem_append,List.mem_flatMap,List.mem_range] at h
  rcases h with ⟨p,hp,h⟩ | h
  ·split at h
   ·obtain ⟨h1,h2⟩:=plansL_mem h
    refine ⟨by simp at h1;omega,fun q hq=>?_⟩
    rcases h2 q hq with h3 | h3
    ·rcases List.mem_append.1 h3 with h3 | h3
     ·exact .inl h3
     ·simp only [List.mem_singleton] at h3
      exact .inr (.inr (by omega))
    ·exact .inr h3
   ·cases h
  ·split at h
   ·cases h
   ·obtain ⟨h1,h2⟩:=plansL_mem h
    refine ⟨by simp at h1;omega,fun q hq=>?_⟩
    rcases h2 q hq with h3 | h3
    ·rcases List.mem_append.1 h3 with h3 | h3
     ·exact .inl h3
     ·simp only [List.mem_singleton] at h3
      exact .inr (.inl h3)
    ·exact .inr h3
theorem seqP_ok {s:Shop} {e:Int} {y:List Int} (h:y∈seqP e s):y.length=s.2.2.2.1.length∧planOk s y:=by
 obtain ⟨h1,h2⟩:=plansL_mem h
 have h1:y.length=s.2.2.2.1.length:=by simpa using h1
 refine ⟨h1,by omega,fun p hp=>?_⟩
 rcases h2 p hp with h3 | h3 | h3
 ·cases h3
 ·omega
 ·exact h3.2
theorem empty_ok (s:Shop):planOk s (List.replicate s.2.2.2.1.length (-1)):=⟨by simp,fun p hp=>by rw [(List.mem_replicate.1 hp).2];omega⟩
def bestStep (s:Shop) (b y:List Int):List Int:=if (decide (takV s y > takV s b)&&filledV s y)=true then y else b
def bestV (s:Shop):List Int:=(seqP 1 s).foldl (bestStep s) (List.replicate s.2.2.2.1.length (-1))
theorem best_ok {s:Shop}:∀ (l:List (List Int)) (b:List Int),(∀ y∈l,y.length=s.2.2.2.1.length∧planOk s y)→(b.length=s.2.2.2.1.length∧planOk s b)→((l.foldl (bestStep s) b).length=s.2.2.2.1.length∧planOk s (l.foldl (bestStep s) b))
 | [],b,_,hb=>hb
 | y::l,b,hl,hb=>by
  rw [List.foldl_cons]
  refine best_ok l _ (fun z hz=>hl z (List.mem_cons_of_mem _ hz)) ?_
  unfold bestStep
  split
  ·exact hl y (by simp)
  ·exact hb
theorem bestV_ok (s:Shop):(bestV s).length=s.2.2.2.1.length∧planOk s (bestV s):=best_ok _ _ (fun _ h=>seqP_ok h) ⟨by simp,empty_ok s⟩
abbrev fcBest:FC:=⟨tSto,tInts,fun o=>∃ s,isSto o s,fun o=>bestV (shopOf o)⟩
theorem eOBest (s:Shop) (hv:Val s):S_orders_store_best fcRepI.sh fcFilled.sh fcTak.sh plansPre allSeq (some (stoV s))=M.pure (bestV s):=by
 unfold S_orders_store_best
 have hw6:=hv.wishes
 have hst:(stoV s).1=s:=rfl
 have hpre:plansPre (some (stoV s)):=⟨s,rfl,hv⟩
 have hseq:allSeq (some (stoV s))=seqP 1 s:=rfl
 simp only [Option.isSome_some,Option.getD_some,M.req_True,ofNat_def,hst,FC.sh,M.bind_det,hseq]
 rw [M.req_true (by exact ⟨trivial,Int.natCast_nonneg _,by show ((s.2.2.2.1.length:Nat):Int)≤200;omega⟩),M.req_true hpre]
 simp only [Int.toNat_natCast]
 rw [rounds_fold (fun (b:Option Sto×List Int×Unit) (y:List Int)=>(some (stoV s),bestStep s b.2.1 y,())) (fun b=>b.1=some (stoV s)∧b.2.1.length=s.2.2.2.1.length) (seqP 1 s) (some (stoV s),List.replicate s.2.2.2.1.length (-1),()) ⟨rfl,by simp⟩ ?_]
 ·have hf:∀ (l:List (List Int)) (b:List Int),l.foldl (fun (b:Option Sto×List Int×Unit) (y:List Int)=>(some (stoV s),bestStep s b.2.1 y,())) (some (stoV s),b,())=(some (stoV s),l.foldl (bestStep s) b,()):=by
   intro l
   induction l with
   | nil=>intro b;rfl
   | cons y l ih=>intro b;exact ih _
  rw [hf,M.bind_pure]
  rfl
 ·intro y hy b hb
  obtain ⟨b1,b2,bu⟩:=b
  obtain ⟨hb1,hb2⟩:=hb
  change b1=_ at hb1
  change b2.length=_ at hb2
  subst hb1
  obtain ⟨hy1,hy2⟩:=seqP_ok hy
  have p1:fcTak.pre (some (stoV s),y):=⟨s,⟨rfl,hv⟩,by show y.length≤_;omega⟩
  have p2:fcTak.pre (some (stoV s),b2):=⟨s,⟨rfl,hv⟩,by show b2.length≤_;omega⟩
  have p3:fcFilled.pre (some (stoV s),y):=⟨s,⟨rfl,hv⟩,hy2⟩
  have e1:fcTak.g (some (stoV s),y)=takV s y:=rfl
  have e2:fcTak.g (some (stoV s),b2)=takV s b2:=rfl
  have e3:fcFilled.g (some (stoV s),y)=filledV s y:=rfl
  refine ⟨?_,rfl,?_⟩
  ·simp only [M.safe_det,M.val_det,M.req_true p1,M.req_true p2,e1,e2,e3,p3,and_true,true_and,and_self,imp_self,implies_true,M.req_True,bestStep]
   have q1:∀ c:Prop,(c→c∧(∃ s_1,isSto (some (stoV s)) s_1∧planOk s_1 y)):=fun c h=>⟨h,p3⟩
   rw [M.req_true (q1 _)]
   have e1:shopOf (some (stoV s))=s:=rfl
   simp only [e1]
   cases hc:(decide (takV s y > takV s b2)&&filledV s y)<;>simp
  ·show (bestStep s b2 y).length=_
   unfold bestStep
   split
   ·exact hy1
   ·exact hb2
theorem sOBest (x):M.le (S_orders_store_best fcRepI.sh fcFilled.sh fcTak.sh plansPre allSeq x) (fcBest.sh x):=M.le_det fun h=>by
 obtain ⟨s,hf,hv⟩:=h
 subst hf
 exact eOBest s hv
theorem openS_0 {s:Shop} {is:Bool} (h:knownS s is=0):openS s is=(some (stoV s),0):=by simp [openS,h]
theorem openS_1 {s:Shop} {is:Bool} (h:knownS s is≠0):openS s is=(none,knownS s is):=by simp [openS,h]
def mostO (s:Shop) (is:Bool):Int×Int:=if knownS s is≠0 then (0,knownS s is) else (takV s (bestV s),0)
abbrev fcMostB:FC:=⟨.prod tS tB,.prod tI tI,fun x=>smallS x.1,fun x=>mostO x.1 x.2⟩
theorem sOMostB (x):M.le (S_orders_most fcOpenS.sh fcBest.sh fcTak.sh x) (fcMostB.sh x):=M.le_det fun h=>by
 unfold S_orders_most
 show _=M.pure (mostO x.1 x.2)
 unfold mostO
 simp only [FC.sh,M.bind_det]
 rw [M.req_true (by exact h)]
 by_cases hk:knownS x.1 x.2=0
 ·have hv:=val_of h (knownS_0 hk).1
  simp only [openS_0 hk,hk,ne_eq,not_true,decide_false,Bool.false_eq_true,if_false]
  rw [M.req_true (by exact ⟨x.1,rfl,hv⟩),M.req_true (by exact ⟨x.1,⟨rfl,hv⟩,Nat.le_of_eq (bestV_ok x.1).1⟩)]
  rfl
 ·simp [openS_1 hk,hk]
abbrev fcMostO:FC:=⟨tS,.prod tI tI,smallS,fun s=>mostO s true⟩
theorem sOMost (x):M.le (S_orders_Most fcMostB.sh x) (fcMostO.sh x):=M.le_det fun h=>by
 unfold S_orders_Most
 simp only [FC.sh,M.bind_det]
 rw [M.req_true (by exact h)]
def extraStep (s:Shop) (n:Int) (y:List Int):Int:=if (!(jobsV s y).2||!canT (stoV s) (jobsV s y).1)=true then n else if (decide (n=-1)||decide (lackT (stoV s) (jobsV s y).1<n))=true then lackT (stoV s) (jobsV s y).1 else n
def extraV (s:Shop):Int:=(seqP 0 s).foldl (extraStep s) (-1)
def extraO (s:Shop):Int×Int:=if knownS s true≠0 then (0,knownS s true) else if extraV s=-1 then (0,3) else (extraV s,0)
abbrev fcExtraO:FC:=⟨tS,.prod tI tI,smallS,extraO⟩
theorem sOExtra (x):M.le (S_orders_Extra fcOpenS.sh plansPre fullSeq fcJobs8.sh fcCan8.sh fcLack8.sh x) (fcExtraO.sh x):=M.le_det fun h=>by
 unfold S_orders_Extra
 show _=M.pure (extraO x)
 unfold extraO
 simp only [FC.sh,M.bind_det]
 rw [M.req_true (by exact h)]
 by_cases hk:knownS x true=0
 ·have hv:=val_of h (knownS_0 hk).1
  have hpre:plansPre (some (stoV x)):=⟨x,rfl,hv⟩
  have hseq:fullSeq (some (stoV x))=seqP 0 x:=rfl
  simp only [openS_0 hk,hk,ne_eq,not_true,decide_false,Bool.false_eq_true,if_false,hseq]
  rw [M.req_true hpre]
  rw [rounds_fold (fun (b:Option Sto×Int×Unit) (y:List Int)=>(some (stoV x),extraStep x b.2.1 y,())) (fun b=>b.1=some (stoV x)) (seqP 0 x) (some (stoV x),-1,()) rfl ?_]
  ·have hf:∀ (l:List (List Int)) (b:Int),l.foldl (fun (b:Option Sto×Int×Unit) (y:List Int)=>(some (stoV x),extraStep x b.2.1 y,())) (some (stoV x),b,())=(some (stoV x),l.foldl (extraStep x) b,()):=by
    intro l
    induction l with
    | nil=>intro b;rfl
    | cons y l ih=>intro b;exact ih _
   rw [hf,M.bind_pure]
   show (if decide (extraV x=-1)=true then M.pure ((0:Int),(3:Int)) else M.pure (extraV x,0))=_
   by_cases he:extraV x=-1
   ·simp [he]
   ·simp [he]
  ·intro y hy b hb
   obtain ⟨b1,b2,bu⟩:=b
   change b1=_ at hb
   subst hb
   obtain ⟨hy1,hy2⟩:=seqP_ok hy
   refine ⟨?_,rfl⟩
   have hjl:=jobs_len hv hy2
   have p1:∃ s_1,isSto (some (stoV x)) s_1∧planOk s_1 y:=⟨x,⟨rfl,hv⟩,hy2⟩
   have hsl:(stoV x).1.2.1.length<2 ^ 63:=h.2.1
   have p2:∃ t,some (stoV x)=some t∧t.1.2.1.length<2 ^ 63∧(jobsV x y).1.length<2 ^ 63:=⟨_,rfl,hsl,by omega⟩
   have p3:∃ t,some (stoV x)=some t∧t.2.1.length≤200∧(jobsV x y).1.length≤1000:=⟨_,rfl,spares_len hv,by omega⟩
   have e1:shopOf (some (stoV x))=x:=rfl
   have e2:Option.getD (some (stoV x)) dSto=stoV x:=rfl
   simp only [M.gdo_det,M.bind_det,e1,e2]
   rw [M.req_true p1]
   simp only [p2,implies_true,M.req_True]
   rw [M.req_true (by exact p3)]
   show _=M.pure (Ex.normal,some (stoV x),extraStep x b2 y,())
   unfold extraStep
   cases h1:(jobsV x y).2
   ·simp
   ·cases h2:canT (stoV x) (jobsV x y).1
    ·simp
    ·simp only [Bool.not_true,Bool.not_false,if_true,Bool.or_self,Bool.false_eq_true,if_false]
     cases h3:(decide (b2=-1)||decide (lackT (stoV x) (jobsV x y).1<b2))<;>simp
 ·simp [openS_1 hk,hk]
def aloneP (s:Shop) (w p:Int):List Int:=(List.replicate s.2.2.2.1.length (-1)).set w.toNat p
def canP (s:Shop) (w:Int):List Int:=((List.range s.2.2.1.length).filter fun (p:Nat)=>filledV s (aloneP s w (p:Int))).map fun (p:Nat)=>(p:Int)
def canO (s:Shop) (w:Int):List Int×Int:=if knownS s (isWishN s w)≠0 then ([],knownS s (isWishN s w)) else (canP s w,0)
abbrev fcCanO:FC:=⟨.prod tS tI,.prod tInts tI,fun x=>smallS x.1,fun x=>canO x.1 x.2⟩
theorem foldl_filter_map' {α β:Type} {p:α→Bool} {g:α→β}:∀ (l:List α) (b:List β),l.foldl (fun b x=>if p x=true then b++[g x] else b) b=b++(l.filter p).map g
 | [],b=>by simp
 | x::l,b=>by
  simp only [List.foldl_cons,List.filter_cons]
  rw [foldl_filter_map' l]
  split<;>simp
theorem alone_ok {s:Shop} {w:Int} {p:Nat} (hp:p<s.2.2.1.length):planOk s (aloneP s w (p:Int)):=by
 refine ⟨by simp [aloneP],fun q hq=>?_⟩
 unfold aloneP at hq
 rcases List.mem_or_eq_of_mem_set hq with h | h
 ·rw [(List.mem_replicate.1 h).2];omega
 ·omega
theorem sOCan8 (x):M.le (S_orders_Can fcOpenS.sh fcIsWishN.sh shRepIO fcFilled.sh x) (fcCanO.sh x):=M.le_det fun h=>by
 obtain ⟨s,w⟩:=x
 change smallS s at h
 unfold S_orders_Can
 show _=M.pure (canO s w)
 unfold canO
 simp only [FC.sh,M.safe_det,M.val_det]
 rw [M.req_true (by exact h),M.req_true (by exact h)]
 by_cases hk:knownS s (isWishN s w)=0
 ·have hv:=val_of h (knownS_0 hk).1
  have hw:=isWishN_iff.1 (knownS_0 hk).2.1
  have hw6:=hv.wishes
  have hp8:=hv.pieces
  simp only [openS_0 hk,hk,ne_eq,not_true,decide_false,Bool.false_eq_true,if_false]
  unfold shRepIO
  simp only [M.bind_det,ofNat_def]
  rw [M.req_true (by exact ⟨trivial,Int.natCast_nonneg _,by show ((s.2.2.2.1.length:Nat):Int)≤200;omega⟩)]
  simp only [Int.toNat_natCast]
  rw [M.loop_list (List.range s.2.2.1.length) (fun i (b:List Int×List Int)=>(w,some (stoV s),(s.2.2.1.length:Int),(i:Int),b.1,b.2,())) (fun (p:Nat) b=>.next (if filledV s (aloneP s w (p:Int))=true then b.1++[(p:Int)] else b.1,aloneP s w (p:Int))) (fun b=>.next (b.1,())) (fun i b=>b.1.length≤i∧∀ p,b.2.set w.toNat p=aloneP s w p) ([],List.replicate s.2.2.2.1.length (-1)) ?_ ?_ ?_ ?_]
  ·rw [foldS_next]
   have hf:∀ (l:List Nat) (b:List Int×List Int),(l.foldl (fun b (p:Nat)=>(if filledV s (aloneP s w (p:Int))=true then b.1++[(p:Int)] else b.1,aloneP s w (p:Int))) b).1=l.foldl (fun b (p:Nat)=>if filledV s (aloneP s w (p:Int))=true then b++[(p:Int)] else b) b.1:=by
    intro l
    induction l with
    | nil=>intro b;rfl
    | cons p l ih=>intro b;rw [List.foldl_cons,List.foldl_cons,ih]
   rw [hf,foldl_filter_map',M.bind_pure,M.go_next]
   rfl
  ·rfl
  ·exact ⟨Nat.le_refl _,fun p=>rfl⟩
  ·intro i hi b hb
   have hi:i<s.2.2.1.length:=by simpa using hi
   have hwi:=wrap64 (n:=(i:Int)+1) (by omega) (by omega)
   obtain ⟨b1,b2⟩:=b
   obtain ⟨hb1,hb2⟩:=hb
   change b1.length≤i at hb1
   change ∀ p,b2.set w.toNat p=aloneP s w p at hb2
   have hll:lenLe (b1.length+(0+1)):=by unfold lenLe;omega
   have hlen:b2.length=s.2.2.2.1.length:=by
    have:=congrArg List.length (hb2 0)
    simpa [aloneP] using this
   have hwb:0≤w∧w<(b2.length:Int):=by rw [hlen];exact hw
   rw [List.getElem_range]
   refine ⟨?_,fun b' hb'=>?_⟩
   ·simp only [lt_len hi,if_true,hwb,and_self,M.req_True,M.bind_det,hb2]
    rw [M.req_true (by exact ⟨s,⟨rfl,hv⟩,alone_ok hi⟩)]
    have e1:shopOf (some (stoV s))=s:=rfl
    simp only [e1,add_def,add_defN,M.req_true hll]
    cases filledV s (aloneP s w (i:Int))<;>simp [Step.mapN,hwi]
   ·cases hb'
    refine ⟨?_,fun p=>?_⟩
    ·show (if _ then b1++[(i:Int)] else b1).length≤i+1
     split
     ·rw [List.length_append];simp;omega
     ·omega
    ·show (aloneP s w (i:Int)).set w.toNat p=aloneP s w p
     unfold aloneP
     rw [List.set_set]
  ·intro b hb
   simp
 ·simp [openS_1 hk,hk]
def shClone (x:List De×Unit):M (List De×Unit):=M.det (x.1≠[]∧x.1.length≤1000) (x.1,())
theorem sClone (x):M.le (S_slices_Clone x) (shClone x):=M.le_detR fun h=>by
 obtain ⟨l,u⟩:=x
 obtain ⟨h1,h2⟩:=h
 change l≠[] at h1
 change l.length≤1000 at h2
 unfold S_slices_Clone
 have hll:lenLe (Add.add 0 l.length):=by show lenLe (0+l.length);unfold lenLe;omega
 rw [M.ret_bind]
 refine ⟨⟨false,fun h=>(by cases h)⟩,fun y hy=>?_⟩
 change y=true→l=[] at hy
 cases y with
 | true=>exact absurd (hy rfl) h1
 | false=>
  simp only [Bool.false_eq_true,if_false]
  rw [M.req_true (by exact hll),M.ret_pure]
  rfl
def shDelete (x:Int×Int×List De×Unit):M ((Nat×Nat)×List De×Unit):=M.det (0≤x.1∧x.2.1=x.1+1∧x.1<(x.2.2.1.length:Int)∧x.2.2.1.length≤1000) ((0,x.2.2.1.length - 1),x.2.2.1.take x.1.toNat++x.2.2.1.drop (x.1.toNat+1)++[(0,0,0)],())
theorem sDelete (x):M.le (S_slices_Delete x) (shDelete x):=M.le_det fun h=>by
 obtain ⟨i,j,l,u⟩:=x
 obtain ⟨h1,h2,h3,h4⟩:=h
 change 0≤i at h1
 change j=i+1 at h2
 change i<(l.length:Int) at h3
 change l.length≤1000 at h4
 subst h2
 obtain ⟨n,rfl⟩:=Int.eq_ofNat_of_zero_le h1
 have hn:n<l.length:=by omega
 unfold S_slices_Delete
 have e1:((n:Int)+1).toNat=n+1:=by omega
 have e2:decide ((n:Int)=(n:Int)+1)=false:=by simp;omega
 have hlt:List.take l.length l=l:=List.take_length
 simp only [ofNat_def,Int.toNat_natCast,e1,e2,Bool.false_eq_true,if_false,hlt,add_defN,List.length_drop,Int.toNat_zero,Nat.zero_add,Nat.sub_zero]
 have hk:n+(l.length - (n+1))=l.length - 1:=by omega
 have hAB:(List.take n l++List.drop (n+1) l).length=l.length - 1:=by
  simp only [List.length_append,List.length_take,List.length_drop];omega
 have hA:(List.take n l++List.drop (n+1) l++List.drop (l.length - 1) l).length=l.length:=by
  rw [List.length_append,hAB,List.length_drop];omega
 have ht:List.take (l.length - 1) (List.take n l++List.drop (n+1) l++List.drop (l.length - 1) l)=List.take n l++List.drop (n+1) l:=by
  rw [←hAB,List.take_left]
 have hr:l.length - (l.length - 1)=1:=by omega
 have hd:List.drop (l.length - 1+1) (List.take n l++List.drop (n+1) l++List.drop (l.length - 1) l)=[]:=List.drop_eq_nil_of_le (by rw [hA];omega)
 simp only [hk,hA,ht,hr,hd,List.replicate_one,List.length_replicate,List.length_singleton,List.append_nil]
 rw [M.req_true (by omega),M.req_true (by omega),M.req_true (by omega),M.req_true (by omega),M.req_true (by omega),M.req_True]
def lostS (s:Shop) (d:Int):Shop:=(s.1,s.2.1,s.2.2.1,s.2.2.2.1,s.2.2.2.2.1.take d.toNat++s.2.2.2.2.1.drop (d.toNat+1),s.2.2.2.2.2)
theorem lost_small {s:Shop} (h:smallS s) (d:Int):smallS (lostS s d):=by
 obtain ⟨h1,h2,h3,h4,h5,h6,h7⟩:=h
 refine ⟨h1,h2,h3,h4,?_,h6,h7⟩
 show (s.2.2.2.2.1.take d.toNat++s.2.2.2.2.1.drop (d.toNat+1)).length<2 ^ 63
 rw [List.length_append,List.length_take,List.length_drop];omega
def withoutO (s:Shop) (d:Int):Int×Int:=if (isDelivN s d&&decide (errS s=0))=true then mostO (lostS s d) true else mostO s (isDelivN s d)
abbrev fcWithoutO:FC:=⟨.prod tS tI,.prod tI tI,fun x=>smallS x.1,fun x=>withoutO x.1 x.2⟩
theorem sOWithout (x):M.le (S_orders_Without fcErrS.sh fcMostB.sh fcIsDelivN.sh shDelete shClone x) (fcWithoutO.sh x):=M.le_det fun h=>by
 obtain ⟨s,d⟩:=x
 change smallS s at h
 unfold S_orders_Without
 show _=M.pure (withoutO s d)
 unfold withoutO
 simp only [FC.sh,M.bind_det,M.gdo_det]
 rw [M.req_true (by exact h),M.req_true (by exact fun _=>h)]
 cases hd:isDelivN s d with
 | false=>
  simp only [Bool.false_and,Bool.false_eq_true,if_false,M.bind_pure,M.go_next]
  rw [M.req_true (by exact h)]
 | true=>
  by_cases he:errS s=0
  ·have hv:=val_of h he
   have hdl:=isDelivN_iff.1 hd
   have h8:=hv.delivs
   have hne:s.2.2.2.2.1≠[]:=fun e=>by rw [e] at hdl;simp at hdl;omega
   have hwd:=wrap64 (n:=d+1) (by omega) (by omega)
   simp only [Bool.true_and,if_true,he,decide_true]
   unfold shClone shDelete
   simp only [M.bind_det]
   rw [M.req_true (by exact ⟨hne,by omega⟩)]
   simp only [add_def,hwd]
   rw [M.req_true (by exact ⟨hdl.1,trivial,hdl.2,by omega⟩)]
   simp only [M.bind_pure,M.go_next]
   have hl:List.drop 0 (List.take (s.2.2.2.2.1.length - 1) (List.take d.toNat s.2.2.2.2.1++List.drop (d.toNat+1) s.2.2.2.2.1++[((0:Int),(0:Int),(0:Int))]))=List.take d.toNat s.2.2.2.2.1++List.drop (d.toNat+1) s.2.2.2.2.1:=by
    rw [List.drop_zero]
    have hlen:(List.take d.toNat s.2.2.2.2.1++List.drop (d.toNat+1) s.2.2.2.2.1).length=s.2.2.2.2.1.length - 1:=by
     simp only [List.length_append,List.length_take,List.length_drop];omega
    rw [←hlen,List.take_left]
   rw [hl]
   rw [M.req_true (by exact lost_small h d)]
   rfl
  ·simp only [he,if_true,decide_false,Bool.and_false,Bool.false_eq_true,if_false,M.bind_pure,M.go_next]
   rw [M.req_true (by exact h)]
end Go.Fer
namespace Go.Fer
open M (Step)
set_option linter.unusedVariables false
set_option linter.unusedSimpArgs false
def fitL (w:Wsh) (m k:Int):List Int:=((List.range w.1.length).filter fun (i:Nat)=>decide ((fitsR w (i:Int) m k).1=1)).map fun (i:Nat)=>(i:Int)
abbrev Task8:Type:=Int×List Int
def placeTasks (s:Shop) (plan:List Int) (i:Nat):Option (List Task8):=if plan.getD i 0<0 then some [] else (dayOf s (wishAt s (i:Int)) (pieceAt s (plan.getD i 0))).map fun d=>(pieceAt s (plan.getD i 0)).2.2.2.2.map fun k=>(d,fitL s.1 (pieceAt s (plan.getD i 0)).2.2.2.1 k)
def tasksV (s:Shop) (plan:List Int):List Task8×Bool:=if ((List.range plan.length).all fun i=>(placeTasks s plan i).isSome)=true then ((List.range plan.length).flatMap fun i=>(placeTasks s plan i).getD [],true) else ([],false)
end Go.Fer
namespace Go.Fer
open M (Step)
set_option linter.unusedVariables false
set_option linter.unusedSimpArgs false
abbrev dDe:De:=(0,0,0)
def okG (t:Task8) (e:De):Bool:=decide (e.2.2 > 0)&&decide (e.1≤t.1)&&t.2.contains e.2.1
def decAt (d:List De) (k:Nat):List De:=d.set k ((d.getD k dDe).1,(d.getD k dDe).2.1,(d.getD k dDe).2.2 - 1)
def givenV (t:Task8) (d:List De):List (List De):=((List.range d.length).filter fun k=>okG t (d.getD k dDe)).map (decAt d)
def okD (d:List De):Prop:=d.length≤1000∧∀ e∈d,0≤e.2.2∧e.2.2≤10
def doesV:List Task8→List De→Bool
 | [],_=>true
 | t::l,d=>(givenV t d).any (doesV l)
def leastF (b n:Int):Int:=if (decide (n≥0)&&(decide (b<0)||decide (n<b)))=true then n else b
def leastV:List Task8→List De→Int
 | [],_=>0
 | t::l,d=>if (t.2.length:Int)=0 then -1 else (givenV t d).foldl (fun b o=>leastF b (leastV l o)) (if leastV l d≥0 then leastV l d+1 else leastV l d)
def allD (s:Shop):List De:=s.2.2.2.2.1++(List.range s.2.1.length).map fun (i:Nat)=>((0:Int),(i:Int),s.2.1.getD i 0)
theorem allD_ok {s:Shop} (hv:Val s):okD (allD s):=by
 have h8:=hv.delivs
 have h10:=hv.spares
 have hsl:=hv.stockLen
 refine ⟨by unfold allD;simp;omega,fun e he=>?_⟩
 unfold allD at he
 rcases List.mem_append.1 he with he | he
 ·have:=hv.deliv e he
  simp only [delivV,inR,Bool.and_eq_true,decide_eq_true_eq] at this
  omega
 ·obtain ⟨i,hi,rfl⟩:=List.mem_map.1 he
  have hi:i<s.2.1.length:=by simpa using hi
  have eg:s.2.1.getD i 0=s.2.1[i]:=by simp [List.getD_eq_getElem?_getD,hi]
  show 0≤s.2.1.getD i 0∧s.2.1.getD i 0≤10
  rw [eg]
  exact hv.stock _ (List.getElem_mem hi)
def fillsV (s:Shop) (plan:List Int):Bool:=(tasksV s plan).2&&doesV (tasksV s plan).1 (allD s)
def buysV (s:Shop) (plan:List Int):Int:=if (!(tasksV s plan).2)=true then -1 else leastV (tasksV s plan).1 (allD s)
end Go.Fer
namespace Go.Fer
open M (Step)
set_option linter.unusedVariables false
set_option linter.unusedSimpArgs false
abbrev fcKnown8:FC:=⟨.prod tS tB,tI,fun x=>smallS x.1,fun x=>knownS x.1 x.2⟩
theorem sRKnown8 (x):M.le (S_ref08_known fcErrS.sh fcKnown.sh x) (fcKnown8.sh x):=M.le_det fun h=>by
 obtain ⟨s,is⟩:=x
 change smallS s at h
 unfold S_ref08_known
 show _=M.pure (knownS s is)
 unfold knownS
 simp only [FC.sh,M.bind_det,M.req_true h]
 by_cases he:errS s=0
 ·simp only [he,ne_eq,not_true,decide_false,Bool.false_eq_true,if_false]
  cases is with
  | false=>simp
  | true=>
   simp only [Bool.not_true,Bool.false_eq_true,if_false,Bool.true_eq_false]
   rw [M.req_true (by exact h.1)]
 ·simp [he]
abbrev fcKnownS:FC:=⟨tS,tI,smallS,fun s=>knownS s true⟩
theorem sRKnownS (x):M.le (S_ref08_Known fcKnown8.sh x) (fcKnownS.sh x):=M.le_det fun h=>by
 unfold S_ref08_Known
 simp only [FC.sh,M.bind_det]
 rw [M.req_true (by exact h)]
def natP (plan:List Int):Prop:=∀ p∈plan,-1≤p
def plansR (s:Shop):Nat→List Int→List (List Int)
 | 0,first=>[first]
 | n+1,first=>(List.range (s.2.2.1.length+1)).flatMap fun k=>if k=0 then plansR s n (first++[-1]) else if nextOk s first (k - 1)=true then plansR s n (first++[((k - 1:Nat):Int)]) else []
theorem plansR_mem {s:Shop}:∀ {n:Nat} {first y:List Int},y∈plansR s n first→y.length=first.length+n∧∀ p∈y,p∈first∨p=-1∨(0≤p∧p<(s.2.2.1.length:Int))
 | 0,first,y,h=>by
  simp only [plansR,List.mem_singleton] at h
  subst h
  exact ⟨rfl,fun p hp=>.inl hp⟩
 | n+1,first,y,h=>by
  simp only [plansR,List.mem_flatMap,List.mem_range] at h
  obtain ⟨k,hk,h⟩:=h
  split at h
  ·obtain ⟨h1,h2⟩:=plansR_mem h
   refine ⟨by simp at h1;omega,fun q hq=>?_⟩
   rcases h2 q hq with h3 | h3
   ·rcases List.mem_append.1 h3 with h3 | h3
    ·exact .inl h3
    ·simp only [List.mem_singleton] at h3
     exact .inr (.inl h3)
   ·exact .inr h3
  ·split at h
   ·obtain ⟨h1,h2⟩:=plansR_mem h
    refine ⟨by simp at h1;omega,fun q hq=>?_⟩
    rcases h2 q hq with h3 | h3
    ·rcases List.mem_append.1 h3 with h3 | h3
     ·exact .inl h3
     ·simp only [List.mem_singleton] at h3
      exact .inr (.inr (by omega))
    ·exact .inr h3
   ·cases h
def seqR (s:Shop):List (List Int):=plansR s s.2.2.2.1.length []
theorem seqR_ok {s:Shop} {y:List Int} (h:y∈seqR s):y.length=s.2.2.2.1.length∧planOk s y∧natP y:=by
 obtain ⟨h1,h2⟩:=plansR_mem h
 have h1:y.length=s.2.2.2.1.length:=by simpa using h1
 refine ⟨h1,⟨by omega,fun p hp=>?_⟩,fun p hp=>?_⟩
 ·rcases h2 p hp with h3 | h3 | h3
  ·cases h3
  ·omega
  ·exact h3.2
 ·rcases h2 p hp with h3 | h3 | h3
  ·cases h3
  ·omega
  ·omega
end Go.Fer
namespace Go.Fer
open M (Step)
set_option linter.unusedVariables false
set_option linter.unusedSimpArgs false
def mostF (s:Shop) (b:Int) (y:List Int):Int:=if (decide (takV s y > b)&&fillsV s y)=true then takV s y else b
def mostR (s:Shop):Int:=(seqR s).foldl (mostF s) 0
def mostRR8 (s:Shop):Int×Int:=if knownS s true≠0 then (0,knownS s true) else (mostR s,0)
def extraF (s:Shop) (b:Int) (y:List Int):Int:=if y.contains (-1)=true then b else leastF b (buysV s y)
def extraR (s:Shop):Int:=(seqR s).foldl (extraF s) (-1)
def extraRR (s:Shop):Int×Int:=if knownS s true≠0 then (0,knownS s true) else if extraR s<0 then (0,3) else (extraR s,0)
def copyS (s:Shop):Prop:=copyW s.1∧s.2.1.length≤1000∧s.2.2.1.length≤1000∧s.2.2.2.1.length≤1000∧s.2.2.2.2.1.length≤1000∧(∀ p∈s.2.2.1,p.2.2.2.2.length≤1000)∧∀ x∈s.2.2.2.1,x.1.length≤1000
theorem copyS.small {s:Shop} (h:copyS s):smallS s:=by
 obtain ⟨h1,h2,h3,h4,h5,h6,h7⟩:=h
 exact ⟨h1.small,by omega,by omega,by omega,by omega,fun p hp=>by have:=h6 p hp;omega,fun x hx=>by have:=h7 x hx;omega⟩
abbrev fcCopy8:FC:=⟨tS,tS,copyS,fun s=>s⟩
theorem sRCopy8 (x):M.le (S_ref08_Copy fcCopy.sh x) (fcCopy8.sh x):=M.le_det fun h=>by
 obtain ⟨h1,h2,h3,h4,h5,h6,h7⟩:=h
 unfold S_ref08_Copy
 simp only [FC.sh,M.bind_det]
 have l1:lenLe (0+x.2.1.length):=by unfold lenLe;omega
 have l2:lenLe (0+x.2.2.1.length):=by unfold lenLe;omega
 have l3:lenLe (0+x.2.2.2.1.length):=by unfold lenLe;omega
 have l4:lenLe (0+x.2.2.2.2.1.length):=by unfold lenLe;omega
 rw [M.req_true (by exact h1)]
 simp only [add_defN,M.req_true l1,M.req_true l2,M.req_true l3,M.req_true l4,List.nil_append]
 rw [M.loop_listT x.2.2.1 (fun i (_:Unit)=>((i:Int),x,0,0,x.1.1,x.1.2.1,x.1.2.2.1,x.1.2.2.2,x.2.2.2.2.2,x.2.1,x.2.2.1,x.2.2.2.1,x.2.2.2.2.1,())) (fun p b=>.next b) (fun _=>.next (x,0,0,x.1.1,x.1.2.1,x.1.2.2.1,x.1.2.2.2,x.2.2.2.2.2,x.2.1,x.2.2.1,x.2.2.2.1,x.2.2.2.2.1,())) () ?_ ?_ ?_]
 ·rw [foldS_next,M.bind_pure,M.go_next]
  rw [M.loop_listT x.2.2.2.1 (fun i (_:Unit)=>((i:Int),x,0,0,x.1.1,x.1.2.1,x.1.2.2.1,x.1.2.2.2,x.2.2.2.2.2,x.2.1,x.2.2.1,x.2.2.2.1,x.2.2.2.2.1,())) (fun p b=>.next b) (fun _=>.next (0,0,x.1.1,x.1.2.1,x.1.2.2.1,x.1.2.2.2,x.2.2.2.2.2,x.2.1,x.2.2.1,x.2.2.2.1,x.2.2.2.2.1,())) () ?_ ?_ ?_]
  ·rw [foldS_next,M.bind_pure,M.go_next]<;>rfl
  ·rfl
  ·intro i hi b
   have hwi:=wrap64 (n:=(i:Int)+1) (by omega) (by omega)
   have hc:=h7 _ (List.getElem_mem hi)
   have r5:lenLe (0+x.2.2.2.1[i].1.length):=by unfold lenLe;omega
   have hset:x.2.2.2.1.set i (x.2.2.2.1[i].1,x.2.2.2.1[i].2)=x.2.2.2.1:=List.set_getElem_self hi
   simp only [ofNat_def,lt_len hi,if_true,in_len hi,M.req_True,getD_nat hi,M.req_true r5,add_def,hwi]
   rw [Int.toNat_natCast,hset]
   rfl
  ·intro b
   simp
 ·rfl
 ·intro i hi b
  have hwi:=wrap64 (n:=(i:Int)+1) (by omega) (by omega)
  have hc:=h6 _ (List.getElem_mem hi)
  have r5:lenLe (0+x.2.2.1[i].2.2.2.2.length):=by unfold lenLe;omega
  have hset:x.2.2.1.set i (x.2.2.1[i].1,x.2.2.1[i].2.1,x.2.2.1[i].2.2.1,x.2.2.1[i].2.2.2.1,x.2.2.1[i].2.2.2.2)=x.2.2.1:=List.set_getElem_self hi
  simp only [ofNat_def,lt_len hi,if_true,in_len hi,M.req_True,getD_nat hi,M.req_true r5,add_def,hwi]
  rw [Int.toNat_natCast,hset]
  rfl
 ·intro b
  simp
def copOf (s:Shop):Cop:=(s.1.1,s.1.2.1,s.1.2.2.1,s.1.2.2.2,s.2.2.2.2.2,s.2.1,s.2.2.1,s.2.2.2.1,s.2.2.2.2.1,())
def shCopy8 (x:Shop×Unit):M Cop:=M.det (copyS x.1) (copOf x.1)
theorem sCopy8 (x):M.le (S_ref08_CopyIO fcCopy.sh x) (shCopy8 x):=M.le_det fun h=>by
 obtain ⟨x,u⟩:=x
 obtain ⟨h1,h2,h3,h4,h5,h6,h7⟩:=h
 change copyW x.1 at h1
 change x.2.1.length≤1000 at h2
 change x.2.2.1.length≤1000 at h3
 change x.2.2.2.1.length≤1000 at h4
 change x.2.2.2.2.1.length≤1000 at h5
 change ∀ p∈x.2.2.1,p.2.2.2.2.length≤1000 at h6
 change ∀ p∈x.2.2.2.1,p.1.length≤1000 at h7
 unfold S_ref08_CopyIO
 simp only [FC.sh,M.bind_det]
 have l1:lenLe (0+x.2.1.length):=by unfold lenLe;omega
 have l2:lenLe (0+x.2.2.1.length):=by unfold lenLe;omega
 have l3:lenLe (0+x.2.2.2.1.length):=by unfold lenLe;omega
 have l4:lenLe (0+x.2.2.2.2.1.length):=by unfold lenLe;omega
 rw [M.req_true (by exact h1)]
 simp only [add_defN,M.req_true l1,M.req_true l2,M.req_true l3,M.req_true l4,List.nil_append]
 rw [M.loop_listT x.2.2.1 (fun i (_:Unit)=>((i:Int),x,0,0,x.1.1,x.1.2.1,x.1.2.2.1,x.1.2.2.2,x.2.2.2.2.2,x.2.1,x.2.2.1,x.2.2.2.1,x.2.2.2.2.1,())) (fun p b=>.next b) (fun _=>.next (x,0,0,x.1.1,x.1.2.1,x.1.2.2.1,x.1.2.2.2,x.2.2.2.2.2,x.2.1,x.2.2.1,x.2.2.2.1,x.2.2.2.2.1,())) () ?_ ?_ ?_]
 ·rw [foldS_next,M.bind_pure,M.go_next]
  rw [M.loop_listT x.2.2.2.1 (fun i (_:Unit)=>((i:Int),x,0,0,x.1.1,x.1.2.1,x.1.2.2.1,x.1.2.2.2,x.2.2.2.2.2,x.2.1,x.2.2.1,x.2.2.2.1,x.2.2.2.2.1,())) (fun p b=>.next b) (fun _=>.next (0,0,x.1.1,x.1.2.1,x.1.2.2.1,x.1.2.2.2,x.2.2.2.2.2,x.2.1,x.2.2.1,x.2.2.2.1,x.2.2.2.2.1,())) () ?_ ?_ ?_]
  ·rw [foldS_next,M.bind_pure,M.go_next]<;>rfl
  ·rfl
  ·intro i hi b
   have hwi:=wrap64 (n:=(i:Int)+1) (by omega) (by omega)
   have hc:=h7 _ (List.getElem_mem hi)
   have r5:lenLe (0+x.2.2.2.1[i].1.length):=by unfold lenLe;omega
   have hset:x.2.2.2.1.set i (x.2.2.2.1[i].1,x.2.2.2.1[i].2)=x.2.2.2.1:=List.set_getElem_self hi
   simp only [ofNat_def,lt_len hi,if_true,in_len hi,M.req_True,getD_nat hi,M.req_true r5,add_def,hwi]
   rw [Int.toNat_natCast,hset]
   rfl
  ·intro b
   simp
 ·rfl
 ·intro i hi b
  have hwi:=wrap64 (n:=(i:Int)+1) (by omega) (by omega)
  have hc:=h6 _ (List.getElem_mem hi)
  have r5:lenLe (0+x.2.2.1[i].2.2.2.2.length):=by unfold lenLe;omega
  have hset:x.2.2.1.set i (x.2.2.1[i].1,x.2.2.1[i].2.1,x.2.2.1[i].2.2.1,x.2.2.1[i].2.2.2.1,x.2.2.1[i].2.2.2.2)=x.2.2.1:=List.set_getElem_self hi
  simp only [ofNat_def,lt_len hi,if_true,in_len hi,M.req_True,getD_nat hi,M.req_true r5,add_def,hwi]
  rw [Int.toNat_natCast,hset]
  rfl
 ·intro b
  simp
abbrev fcLost:FC:=⟨.prod tS tI,tS,fun x=>copyS x.1∧isDelivN x.1 x.2=true,fun x=>lostS x.1 x.2⟩
theorem sRLost (x):M.le (S_ref08_Lost fcCopy8.sh x) (fcLost.sh x):=M.le_det fun h=>by
 obtain ⟨s,d⟩:=x
 obtain ⟨hc,hd⟩:=h
 change copyS s at hc
 have hd:=isDelivN_iff.1 hd
 change 0≤d∧d<(s.2.2.2.2.1.length:Int) at hd
 have h5:=hc.2.2.2.2.1
 unfold S_ref08_Lost
 simp only [FC.sh,M.bind_det]
 rw [M.req_true (by exact hc)]
 have hwd:=wrap64 (n:=d+1) (by omega) (by omega)
 have e1:(d+1).toNat=d.toNat+1:=by omega
 simp only [ofNat_def,add_def,add_defN,hwd,List.nil_append,e1,Int.toNat_natCast,List.take_length]
 rw [M.req_true (by omega),M.req_true (by unfold lenLe;rw [List.length_take];omega),M.req_true (by omega),M.req_true (by unfold lenLe;rw [List.length_take,List.length_drop];omega)]
 rfl
end Go.Fer
namespace Go.Fer
open M (Step)
set_option linter.unusedVariables false
set_option linter.unusedSimpArgs false
theorem sSameInts8 (x):M.le (S_law08_sameInts x) (fcSameInts.sh x):=sSameInts x
def brokeN (s:Shop):Int:=(s.2.2.1.map fun p=>(p.2.2.2.2.length:Int)).foldl (·+·) 0
def farS (s:Shop):Bool:=
 if (farV s.1||decide ((s.2.1.length:Int) > 40)||decide ((s.2.2.1.length:Int) > 40)||decide ((s.2.2.2.1.length:Int) > 40)||decide ((s.2.2.2.2.1.length:Int) > 40))=true then true
 else if (s.2.2.1.any fun p=>decide ((p.2.2.2.2.length:Int) > 40))=true then true
 else if (s.2.2.2.1.any fun x=>decide ((x.1.length:Int) > 40))=true then true
 else if errS s≠0 then false
 else decide ((s.2.2.2.1.length:Int) > 3)||decide ((s.2.2.1.length:Int) > 4)||decide ((s.2.2.2.2.1.length:Int) > 3)||decide (brokeN s > 4)
theorem farS_copy {s:Shop} (h:farS s=false):copyS s:=by
 unfold farS at h
 split at h
 ·cases h
 ·rename_i h1
  split at h
  ·cases h
  ·rename_i h2
   split at h
   ·cases h
   ·rename_i h3
    simp only [Bool.or_eq_true,decide_eq_true_eq,not_or] at h1
    rw [Bool.not_eq_true,List.any_eq_false] at h2 h3
    have h0:farV s.1=false:=by simpa using h1.1.1.1.1
    refine ⟨far_copy h0,by omega,by omega,by omega,by omega,fun p hp=>?_,fun x hx=>?_⟩
    ·have:=h2 p hp;simp only [decide_eq_true_eq] at this;omega
    ·have:=h3 x hx;simp only [decide_eq_true_eq] at this;omega
abbrev fcFarS:FC:=⟨tS,tB,smallS,farS⟩
theorem sFar8 (x):M.le (S_law08_Far fcErrS.sh fcFar.sh x) (fcFarS.sh x):=M.le_det fun h=>by
 change smallS x at h
 unfold S_law08_Far
 show _=M.pure (farS x)
 unfold farS
 simp only [FC.sh,M.bind_det,ofNat_def]
 rw [M.req_true (by exact h.1)]
 obtain ⟨g1,g2,g3,g4,g5,g6,g7⟩:=id h
 by_cases h1:(farV x.1||decide ((x.2.1.length:Int) > 40)||decide ((x.2.2.1.length:Int) > 40)||decide ((x.2.2.2.1.length:Int) > 40)||decide ((x.2.2.2.2.1.length:Int) > 40))=true
 ·rw [if_pos h1,if_pos h1]
 ·rw [if_neg h1,if_neg h1]
  simp only [Bool.or_eq_true,decide_eq_true_eq,not_or] at h1
  rw [M.loop_listT x.2.2.1 (fun i (_:Unit)=>((i:Int),x,())) (fun p u=>if decide ((p.2.2.2.2.length:Int) > 40)=true then .done (.done true) else .next u) (fun _=>.next (x,())) () ?_ ?_ ?_]
  ·rw [foldS_any (p:=fun p:Pc=>decide ((p.2.2.2.2.length:Int) > 40))]
   by_cases h2:(x.2.2.1.any fun p=>decide ((p.2.2.2.2.length:Int) > 40))=true
   ·simp only [h2,if_true,M.bind_pure,M.go_done]
   ·simp only [h2,Bool.false_eq_true,if_false,M.bind_pure,M.go_next]
    rw [M.loop_listT x.2.2.2.1 (fun i (_:Unit)=>((i:Int),x,())) (fun p u=>if decide ((p.1.length:Int) > 40)=true then .done (.done true) else .next u) (fun _=>.next (x,())) () ?_ ?_ ?_]
    ·rw [foldS_any (p:=fun p:Wi=>decide ((p.1.length:Int) > 40))]
     by_cases h3:(x.2.2.2.1.any fun x=>decide ((x.1.length:Int) > 40))=true
     ·simp only [h3,if_true,M.bind_pure,M.go_done]
     ·simp only [h3,Bool.false_eq_true,if_false,M.bind_pure,M.go_next]
      rw [M.req_true (by exact h)]
      by_cases he:errS x=0
      ·simp only [he,ne_eq,not_true,decide_false,Bool.false_eq_true,if_false]
       have hb:∀ p∈x.2.2.1,p.2.2.2.2.length≤40:=fun p hp=>by
        rw [Bool.not_eq_true,List.any_eq_false] at h2
        have:=h2 p hp;simp only [decide_eq_true_eq] at this;omega
       rw [M.loop_list x.2.2.1 (fun i (n:Int)=>(n,(i:Int),x,())) (fun p n=>.next (n+(p.2.2.2.2.length:Int))) (fun n=>.next (n,x,())) (fun i n=>0≤n∧n≤40*i) 0 ?_ ?_ ?_ ?_]
       ·rw [foldS_next,M.bind_pure,M.go_next]
        unfold brokeN
        rw [List.foldl_map]
       ·rfl
       ·simp
       ·intro i hi n hn
        have hwi:=wrap64 (n:=(i:Int)+1) (by omega) (by omega)
        have hbi:=hb _ (List.getElem_mem hi)
        have hwn:=wrap64 (n:=n+(x.2.2.1[i].2.2.2.2.length:Int)) (by omega) (by omega)
        refine ⟨?_,fun b' hb'=>?_⟩
        ·simp only [lt_len hi,if_true,in_len hi,M.req_True,getD_nat hi,add_def,hwi,hwn]
         rfl
        ·cases hb'
         omega
       ·intro n hn
        simp
      ·simp [he]
    ·rfl
    ·intro i hi u
     have hwi:=wrap64 (n:=(i:Int)+1) (by omega) (by omega)
     simp only [lt_len hi,if_true,in_len hi,M.req_True,getD_nat hi,M.bind_pure,add_def,hwi]
     exact fin_step (mk:=fun _:Unit=>((i:Int)+1,x,()))
    ·intro u
     simp
  ·rfl
  ·intro i hi u
   have hwi:=wrap64 (n:=(i:Int)+1) (by omega) (by omega)
   simp only [lt_len hi,if_true,in_len hi,M.req_True,getD_nat hi,M.bind_pure,add_def,hwi]
   exact fin_step (mk:=fun _:Unit=>((i:Int)+1,x,()))
  ·intro u
   simp
def readyS (s:Shop):Bool:=!farS s&&decide (knownS s true=0)
abbrev fcReadyS:FC:=⟨tS,tB,smallS,readyS⟩
theorem sReady8 (x):M.le (S_law08_ready fcFarS.sh fcKnownS.sh x) (fcReadyS.sh x):=M.le_det fun h=>by
 unfold S_law08_ready
 simp only [FC.sh,M.bind_det,M.gdo_det]
 rw [M.req_true (by exact h),M.req_true (by exact fun _=>h)]
 show M.pure _=M.pure (readyS x)
 unfold readyS
 cases farS x<;>simp
theorem readyS_of {s:Shop} (hs:smallS s) (h:readyS s=true):copyS s∧knownS s true=0∧Val s:=by
 unfold readyS at h
 simp only [Bool.and_eq_true,Bool.not_eq_true',decide_eq_true_eq] at h
 exact ⟨farS_copy h.1,h.2,val_of hs (knownS_0 h.2).1⟩
def betterV (s o:Shop):Bool:=
 if (decide ((mostO s true).2≠0)||decide ((mostO o true).2≠0)||decide ((mostO o true).1<(mostO s true).1)||decide ((extraO s).2≠0)&&decide ((extraO s).2≠3))=true then false
 else decide ((extraO s).2≠0)||decide ((extraO o).2=0)&&decide ((extraO o).1≤(extraO s).1)&&decide ((extraO o).1≥0)
abbrev fcBetter:FC:=⟨.prod tS tS,tB,fun x=>smallS x.1∧smallS x.2,fun x=>betterV x.1 x.2⟩
theorem sBetter (x):M.le (S_law08_better fcMostO.sh fcExtraO.sh x) (fcBetter.sh x):=M.le_det fun h=>by
 unfold S_law08_better
 simp only [FC.sh,M.bind_det]
 rw [M.req_true (by exact h.1),M.req_true (by exact h.2),M.req_true (by exact h.1),M.req_true (by exact h.2)]
 show _=M.pure (betterV x.1 x.2)
 unfold betterV
 split<;>rfl
def exS:Shop:=(exW,[1,0,0,0],[(1,60,0,0,[0]),(1,60,7,0,[]),(2,65,0,1,[0]),(2,60,0,0,[0,1])],[([1],(55,65),7,3,500),([1,2],(60,60),0,5,400),([2],(60,70),9,8,700),([2],(65,65),0,5,300)],[(4,2,1),(6,3,1)],2)
abbrev fcExample8:FC:=⟨.unit,tS,fun _=>True,fun _=>exS⟩
theorem sExample8 (x):M.le (S_law08_Example fcExample.sh x) (fcExample8.sh x):=M.le_det fun _=>by
 unfold S_law08_Example
 simp only [FC.sh,M.bind_det,M.req_True]
 rfl
theorem ex8_most:mostO exS true=(1600,0):=by decide +kernel
theorem ex8_can:canO exS 2=([2,3],0):=by decide +kernel
theorem ex8_without:withoutO exS 1=(1200,0):=by decide +kernel
theorem ex8_extra:extraO exS=(2,0):=by decide +kernel
theorem ex8_suits:suitsR exS 0 0=(2,0):=by decide +kernel
theorem exS_small:smallS exS:=by
 refine ⟨exW_small,by decide,by decide,by decide,by decide,?_,?_⟩
 ·intro p hp
  simp only [exS,List.mem_cons,List.not_mem_nil,or_false] at hp
  rcases hp with rfl | rfl | rfl | rfl<;>decide
 ·intro x hx
  simp only [exS,List.mem_cons,List.not_mem_nil,or_false] at hx
  rcases hx with rfl | rfl | rfl | rfl<;>decide
abbrev fcWorks8:FC:=⟨.unit,tB,fun _=>True,fun _=>true⟩
theorem sWorks8 (x):M.le (S_law08_works fcMostO.sh fcExtraO.sh fcCanO.sh fcWithoutO.sh fcSuits.sh fcSameInts.sh fcExample8.sh x) (fcWorks8.sh x):=M.le_det fun _=>by
 have h:=exS_small
 unfold S_law08_works
 simp only [FC.sh,M.bind_det,M.req_True,M.gdo_det]
 rw [M.req_true (by exact h),M.req_true (by exact h),M.req_true (by exact h),M.req_true (by exact h),M.req_true (by exact h)]
 simp only [ex8_most,ex8_can,ex8_without,ex8_extra,ex8_suits]
 rw [M.req_true (by exact fun _=>⟨by decide,by decide⟩)]
 rfl
end Go.Fer
