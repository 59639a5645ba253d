/- A part of one proof: Early2. No condition. -/
import Derived.Test.YthlijfligikciaaGreatY04
namespace Go.Proofs.YthlijfligikciaaGreat
open Go.RowKit
section
variable {P:Program} {ops:Array Oper} {Q:Exit→Act→World→Prop} {md:Region.Mode} {S:World→Prop} {E:Nat→Bool}
def ClosedL (md:Region.Mode) (ops:Array Oper) (listed:Array Bool):Prop:=∀ (k:Nat) (ok:Oper),ops[k]? = some ok→listed.getD k false=true→∀ e ∈ ok.after,Region.binds md e=true→listed.getD e.on false=true
def closedB (md:Region.Mode) (ops:Array Oper) (listed:Array Bool):Bool:=(List.range ops.size).all fun k=>!(listed.getD k false) || (match ops[k]? with|some ok=>ok.after.all fun e=>!Region.binds md e || listed.getD e.on false|none=>true)
theorem closedB_spec {listed:Array Bool} (h:closedB md ops listed=true):ClosedL md ops listed:=fun k ok hk hl e he hb=>by
 have h1:=List.all_eq_true.1 h k (by rw [List.mem_range];exact (Array.getElem?_eq_some_iff.1 hk).1)
 simp only [hl,Bool.not_true,Bool.false_or,hk] at h1
 have h2:=Array.all_eq_true'.1 h1 e he
 rw [hb] at h2
 simpa using h2
theorem getD_set_mono {listed:Array Bool} {j k:Nat} (h:listed.getD k false=true):(listed.setIfInBounds j true).getD k false=true:=by
 by_cases e:j=k
 ·subst e
  rcases Nat.lt_or_ge j listed.size with h'|h'
  ·simp [h']
  ·simp [Array.getElem?_eq_none h'] at h
 ·rw [getD_set_ne false e];exact h
theorem ClosedL.set {listed:Array Bool} {j:Nat} (h:ClosedL md ops listed) (hj:j ∈ Region.ready md ops listed):ClosedL md ops (listed.setIfInBounds j true):=fun k ok hk hl e he hb=>by
 obtain ⟨_,oj,hoj,hall⟩:=mem_ready.1 hj
 by_cases ekj:j=k
 ·subst ekj
  rw [hoj] at hk
  injection hk with hk
  subst hk
  exact getD_set_mono (hall e he hb)
 ·rw [getD_set_ne false ekj] at hl
  exact getD_set_mono (h k ok hk hl e he hb)
theorem wpAnyE_first2 {i:Nat} {oi:Oper} {v:Value} (hi:ops[i]? = some oi) (hsel:∀ (j:Nat) (o:Oper) cs b,ops[j]? = some o→o.op ≠ .select cs b)
  (hQ:∀ c a w,Q (.panic c) (a.put oi.dst v) w→Q (.panic c) a w):
  ∀ (fuel:Nat) (listed:Array Bool) (a:Act) (w:World),ClosedL md ops listed→
   (∀ j oj,ops[j]? = some oj→E j=false→listed.getD j true=false→(∃ e ∈ oj.after,Region.binds md e=true∧e.on=i)∨∃ k ok,ops[k]? = some ok∧(∃ e ∈ oj.after,Region.binds md e=true∧e.on=k)∧∃ e ∈ ok.after,Region.binds md e=true∧e.on=i)→
   (∀ j oj,ops[j]? = some oj→j≠i→listed.getD j true=false→(∀ e ∈ oj.after,Region.binds md e=true→e.on≠i)→oi.apart ops oj=true)→
   i ∈ Region.ready md ops listed→YieldsIf P ops S oi v a→S w→
   wpAnyE P md ops Q S E fuel (listed.setIfInBounds i true) (a.put oi.dst v) w→wpAnyE P md ops Q S E (fuel+1) listed a w:=by
 intro fuel
 induction fuel with
 | zero=>
  intro listed a w _ _ _ hr hy hS H
  refine ⟨fun h=>(by rw [h] at hr;cases hr),fun j hj=>?_⟩
  by_cases hji:j=i
  ·subst hji;exact hy.wpOp hi hS ⟨fun _=>hS,H⟩
  ·have:=ready_mono hj hji
   rw [H.1] at this
   cases this
 | succ fuel ih=>
  intro listed a w hcl hE hfree hr hy hS H
  refine ⟨fun h=>(by rw [h] at hr;cases hr),fun j hj=>?_⟩
  by_cases hji:j=i
  ·subst hji;exact hy.wpOp hi hS ⟨fun _=>hS,H⟩
  ·have h1:=H.2 j (ready_mono hj hji)
   obtain ⟨hjun,oj,hoj,hall⟩:=mem_ready.1 hj
   have hun:listed.getD i false=true→False:=fun h1=>by
    have h0:=(mem_ready.1 hr).1
    rcases Nat.lt_or_ge i listed.size with h'|h'
    ·simp [h'] at h0 h1;rw [h0] at h1;cases h1
    ·simp [Array.getElem?_eq_none h'] at h1
   have hnot:∀ e ∈ oj.after,Region.binds md e=true→e.on≠i:=fun e he hb heq=>by
    have h1:=hall e he hb
    rw [heq] at h1
    exact hun h1
   have hEj:E j=true:=by
    cases hb:E j with
    | true=>rfl
    | false=>
     rcases hE j oj hoj hb hjun with ⟨e,he,h1,h2⟩|⟨k,ok,hk,⟨e,he,h1,h2⟩,⟨e',he',h1',h2'⟩⟩
     ·exact absurd h2 (hnot e he h1)
     ·have h3:=hall e he h1
      rw [h2] at h3
      have h4:=hcl k ok hk h3 e' he' h1'
      rw [h2'] at h4
      exact (hun h4).elim
   have h2:=wpOp_putIf hoj (hfree j oj hoj hji hjun hnot) (fun cs b=>hsel i oi cs b hi) (fun cs b=>hsel j oj cs b hoj) hQ hy h1
   have hfree':∀ k ok,ops[k]? = some ok→k≠i→(listed.setIfInBounds j true).getD k true=false→
     (∀ e ∈ ok.after,Region.binds md e=true→e.on≠i)→oi.apart ops ok=true:=fun k ok hk hki hun hno=>by
    refine hfree k ok hk hki ?_ hno
    by_cases hjk:j=k
    ·subst hjk;exact hjun
    ·rw [getD_set_ne true hjk] at hun;exact hun
   refine wpOp_mono (fun a' w' h3=>⟨h3.2.1,ih (listed.setIfInBounds j true) a' w' (hcl.set hj) (fun k ok hk hb hu=>hE k ok hk hb (by
    by_cases hjk:j=k
    ·subst hjk;exact hjun
    ·rw [getD_set_ne true hjk] at hu;exact hu)) hfree' (ready_mono hr (Ne.symm hji)) h3.1 (h3.2.1 hEj) ?_⟩) h2
   rw [Array.setIfInBounds_comm _ _ hji]
   exact h3.2.2
theorem wpAnyE_take2 {i:Nat} {oi:Oper} {v:Value} {fuel:Nat} {listed:Array Bool} {a:Act} {w:World} (hi:ops[i]? = some oi)
  (hs:Region.noSelect ops=true) (hf:Region.free md ops listed i=true) (hr:(Region.ready md ops listed).contains i=true) (hcl:closedB md ops listed=true)
  (hE:((List.range ops.size).all fun j=>E j || listed.getD j true || Region.waitsFor md ops j i || (List.range ops.size).any fun k=>Region.waitsFor md ops j k && Region.waitsFor md ops k i)=true)
  (hQ:∀ c a w,Q (.panic c) (a.put oi.dst v) w→Q (.panic c) a w) (hy:YieldsIf P ops S oi v a) (hS:S w)
  (h:wpAnyE P md ops Q S E fuel (listed.setIfInBounds i true) (a.put oi.dst v) w):wpAnyE P md ops Q S E (fuel+1) listed a w:=
 wpAnyE_first2 hi (Region.noSelect_spec hs) hQ fuel listed a w (closedB_spec hcl) (fun j oj hj hb hu=>by
  have h1:=List.all_eq_true.1 hE j (by rw [List.mem_range];exact (Array.getElem?_eq_some_iff.1 hj).1)
  rw [hb,hu,Bool.false_or,Bool.false_or,Bool.or_eq_true] at h1
  rcases h1 with h1|h1
  ·obtain ⟨oj',hj',e,he,h2,h3⟩:=Region.waitsFor_spec h1
   rw [hj] at hj'
   injection hj' with hj'
   subst hj'
   exact .inl ⟨e,he,h2,h3⟩
  ·obtain ⟨k,_,h4⟩:=List.any_eq_true.1 h1
   rw [Bool.and_eq_true] at h4
   obtain ⟨oj',hj',e,he,h2,h3⟩:=Region.waitsFor_spec h4.1
   obtain ⟨ok,hk,e',he',h2',h3'⟩:=Region.waitsFor_spec h4.2
   rw [hj] at hj'
   injection hj' with hj'
   subst hj'
   exact .inr ⟨k,ok,hk,⟨e,he,h2,h3⟩,⟨e',he',h2',h3'⟩⟩) (Region.free_spec hi hf) (by simpa using hr) hy hS h
theorem wpAnyE_firstP {i:Nat} {oi:Oper} {v:Value} (hi:ops[i]? = some oi) (hsel:∀ (j:Nat) (o:Oper) cs b,ops[j]? = some o→o.op ≠ .select cs b)
  (hQ:∀ c a w,Q (.panic c) (a.put oi.dst v) w→Q (.panic c) a w) (hE:E i=false):
  ∀ (fuel:Nat) (listed:Array Bool) (a:Act) (w:World),
   (∀ j oj,ops[j]? = some oj→j≠i→listed.getD j true=false→(∀ e ∈ oj.after,Region.binds md e=true→e.on≠i)→oi.apart ops oj=true)→
   i ∈ Region.ready md ops listed→YieldsIf P ops (fun _=>True) oi v a→
   wpAnyE P md ops Q S E fuel (listed.setIfInBounds i true) (a.put oi.dst v) w→wpAnyE P md ops Q S E (fuel+1) listed a w:=by
 intro fuel
 induction fuel with
 | zero=>
  intro listed a w _ hr hy H
  refine ⟨fun h=>(by rw [h] at hr;cases hr),fun j hj=>?_⟩
  by_cases hji:j=i
  ·subst hji;exact hy.wpOp hi trivial ⟨fun e=>(by rw [hE] at e;cases e),H⟩
  ·have:=ready_mono hj hji
   rw [H.1] at this
   cases this
 | succ fuel ih=>
  intro listed a w hfree hr hy H
  refine ⟨fun h=>(by rw [h] at hr;cases hr),fun j hj=>?_⟩
  by_cases hji:j=i
  ·subst hji;exact hy.wpOp hi trivial ⟨fun e=>(by rw [hE] at e;cases e),H⟩
  ·have h1:=H.2 j (ready_mono hj hji)
   obtain ⟨hjun,oj,hoj,hall⟩:=mem_ready.1 hj
   have hnot:∀ e ∈ oj.after,Region.binds md e=true→e.on≠i:=fun e he hb heq=>by
    have h1:=hall e he hb
    rw [heq] at h1
    have h0:=(mem_ready.1 hr).1
    rcases Nat.lt_or_ge i listed.size with h'|h'
    ·simp [h'] at h0 h1;rw [h0] at h1;cases h1
    ·simp [Array.getElem?_eq_none h'] at h1
   have h2:=wpOp_putIf hoj (hfree j oj hoj hji hjun hnot) (fun cs b=>hsel i oi cs b hi) (fun cs b=>hsel j oj cs b hoj) hQ hy h1
   have hfree':∀ k ok,ops[k]? = some ok→k≠i→(listed.setIfInBounds j true).getD k true=false→
     (∀ e ∈ ok.after,Region.binds md e=true→e.on≠i)→oi.apart ops ok=true:=fun k ok hk hki hun hno=>by
    refine hfree k ok hk hki ?_ hno
    by_cases hjk:j=k
    ·subst hjk;exact hjun
    ·rw [getD_set_ne true hjk] at hun;exact hun
   refine wpOp_mono (fun a' w' h3=>⟨h3.2.1,ih (listed.setIfInBounds j true) a' w' hfree' (ready_mono hr (Ne.symm hji)) h3.1 ?_⟩) h2
   rw [Array.setIfInBounds_comm _ _ hji]
   exact h3.2.2
theorem wpAnyE_takeP {i:Nat} {oi:Oper} {v:Value} {fuel:Nat} {listed:Array Bool} {a:Act} {w:World} (hi:ops[i]? = some oi)
  (hs:Region.noSelect ops=true) (hf:Region.free md ops listed i=true) (hr:(Region.ready md ops listed).contains i=true) (hE:E i=false)
  (hQ:∀ c a w,Q (.panic c) (a.put oi.dst v) w→Q (.panic c) a w) (hy:YieldsIf P ops (fun _=>True) oi v a)
  (h:wpAnyE P md ops Q S E fuel (listed.setIfInBounds i true) (a.put oi.dst v) w):wpAnyE P md ops Q S E (fuel+1) listed a w:=
 wpAnyE_firstP hi (Region.noSelect_spec hs) hQ hE fuel listed a w (Region.free_spec hi hf) (by simpa using hr) hy h
end
end Go.Proofs.YthlijfligikciaaGreat
