/- A part of one proof: GeomB SnC Early3 PnA HpP. No condition. -/
import Derived.Test.YthlijfligikciaaGreatY01
import Derived.Test.YthlijfligikciaaGreatY13
import Derived.Test.YthlijfligikciaaGreatY24
import Derived.Test.YthlijfligikciaaGreatY16
import Derived.Test.YthlijfligikciaaGreatY15
import Derived.Test.YthlijfligikciaaGreatProg
namespace Go.Proofs.YthlijfligikciaaGreat
open Go.RowKit
set_option linter.unusedSimpArgs false
set_option maxHeartbeats 2000000 in
theorem nearest_any (a b c d x y:Int) (w:World):
  Calls Tryz.prog 92 #[.agg #[.int .i64 a, .int .i64 b, .int .i64 c, .int .i64 d], .agg #[.int .i64 x, .int .i64 y]] w fun e w'=>e = .returned (.agg #[.int .i64 (sel (rightB a b c d && fitsB x y) (clampI x a c)), .int .i64 (sel (rightB a b c d && fitsB x y) (clampI y b d))])∧Below w.heap.size w w':=by
 by_cases h:rightB a b c d=true∧fitsB x y=true
 ·obtain ⟨h1,h2⟩:=h
  go_enter Tryz.func92,Tryz.ntmps92
  go_wp2_with (first
   | (go_at_call 32;refine (right_any _ _ _ _ _).mono ?_;rintro e w' ⟨rfl,hb⟩;obtain ⟨X1,rfl,hl1,hm1⟩:=later (w.heap.size+3) hb (by first|exact Nat.le_refl _|go_size);clear hb;(try simp only [q9A,q9B,q9D] at hm1))
   | (go_at_call 10;refine (fits_any _ _ _).mono ?_;rintro e w' ⟨rfl,hb⟩;obtain ⟨X2,rfl,hl2,hm2⟩:=later (w.heap.size+3) hb (by first|exact Nat.le_refl _|go_size);clear hb;(try simp only [q9A,q9B,q9D] at hm2)))
  (refine wp_region_later_tail 15 (w.heap.size+3) (by kernel_rfl) (by kernel_rfl) (by go_size) ?_;simp only [List.take_succ_cons,List.take_zero,List.drop_succ_cons,List.drop_zero];(repeat (go_big_quiet_step ((first|(go_at_call 125;exact Later.call _ (Nat.le_trans (by go_size) (Later.is _).size) (clamp_any _ _ _ _))))));refine wpQuiet_nil ?_;intro Xq hlq hmq)
  go_wp2
  refine bodyPost_ret (by simp only [results,Tryz.results92];go_simp;all_goals simp_all [sel]) rfl ⟨rfl,?_⟩
  exact q9o
 ·have hv:(rightB a b c d && fitsB x y)=false:=by simpa using h
  have hd:(!rightB a b c d || !fitsB x y)=true:=by revert h;cases rightB a b c d <;> cases fitsB x y <;> simp
  clear h
  go_enter Tryz.func92,Tryz.ntmps92
  go_wp2_with (first
   | (go_at_call 32;refine (right_any _ _ _ _ _).mono ?_;rintro e w' ⟨rfl,hb⟩;obtain ⟨X1,rfl,hl1,hm1⟩:=later (w.heap.size+3) hb (by first|exact Nat.le_refl _|go_size);clear hb;(try simp only [q9A,q9B,q9D] at hm1))
   | (go_at_call 10;refine (fits_any _ _ _).mono ?_;rintro e w' ⟨rfl,hb⟩;obtain ⟨X2,rfl,hl2,hm2⟩:=later (w.heap.size+3) hb (by first|exact Nat.le_refl _|go_size);clear hb;(try simp only [q9A,q9B,q9D] at hm2)))
  all_goals first
   | (exfalso;simp_all;done)
   | (refine bodyPost_ret (by simp only [results,Tryz.results92];go_simp;all_goals simp_all [sel]) rfl ⟨rfl,?_⟩;exact q9o)
set_option maxHeartbeats 2000000 in
theorem dist_any (a b c d x y:Int) (w:World):
  Calls Tryz.prog 46 #[.agg #[.int .i64 a, .int .i64 b, .int .i64 c, .int .i64 d], .agg #[.int .i64 x, .int .i64 y]] w fun e w'=>e = .returned (.int .u64 (distI a b c d x y))∧Below w.heap.size w w':=by
 by_cases h:rightB a b c d=true∧fitsB x y=true
 ·obtain ⟨h1,h2⟩:=h
  have hn:∀ w,Calls Tryz.prog 92 #[.agg #[.int .i64 a, .int .i64 b, .int .i64 c, .int .i64 d], .agg #[.int .i64 x, .int .i64 y]] w fun e w'=>e = .returned (.agg #[.int .i64 (clampI x a c), .int .i64 (clampI y b d)])∧Below w.heap.size w w':=by
   intro w
   have:=nearest_any a b c d x y w
   rwa [h1,h2,Bool.and_self,sel_true,sel_true] at this
  have hN:=Lib.hid hn
  clear hn
  go_enter Tryz.func46,Tryz.ntmps46
  go_wp2_with (first
   | (go_at_call 32;refine (right_any _ _ _ _ _).mono ?_;rintro e w' ⟨rfl,hb⟩;obtain ⟨X1,rfl,hl1,hm1⟩:=later (w.heap.size+2) hb (by first|exact Nat.le_refl _|go_size);clear hb;(try simp only [q9A,q9B,q9D] at hm1))
   | (go_at_call 10;refine (fits_any _ _ _).mono ?_;rintro e w' ⟨rfl,hb⟩;obtain ⟨X2,rfl,hl2,hm2⟩:=later (w.heap.size+2) hb (by first|exact Nat.le_refl _|go_size);clear hb;(try simp only [q9A,q9B,q9D] at hm2)))
  (refine wp_region_later (w.heap.size+2) (by kernel_rfl) (by kernel_rfl) (by go_size) ?_;(repeat (go_big_quiet_step ((first|(go_at_call 92;exact Later.call _ (Nat.le_trans (by go_size) (Later.is _).size) (hN.out _))|(go_at_call 91;exact Later.call _ (Nat.le_trans (by go_size) (Later.is _).size) (apart_any _ _ _ _ _))))));refine wpQuiet_nil ?_;intro Xq hlq hmq)
  go_wp2
  go_ret
  exact ⟨ret_i (dist_apart h1 h2),q9o⟩
 ·have hv:distI a b c d x y=0:=by unfold distI;rw [if_neg (by simpa using h)]
  have hd:(!rightB a b c d || !fitsB x y)=true:=by revert h;cases rightB a b c d <;> cases fitsB x y <;> simp
  clear h
  go_enter Tryz.func46,Tryz.ntmps46
  go_wp2_with (first
   | (go_at_call 32;refine (right_any _ _ _ _ _).mono ?_;rintro e w' ⟨rfl,hb⟩;obtain ⟨X1,rfl,hl1,hm1⟩:=later (w.heap.size+2) hb (by first|exact Nat.le_refl _|go_size);clear hb;(try simp only [q9A,q9B,q9D] at hm1))
   | (go_at_call 10;refine (fits_any _ _ _).mono ?_;rintro e w' ⟨rfl,hb⟩;obtain ⟨X2,rfl,hl2,hm2⟩:=later (w.heap.size+2) hb (by first|exact Nat.le_refl _|go_size);clear hb;(try simp only [q9A,q9B,q9D] at hm2)))
  all_goals first
   | (exfalso;simp_all;done)
   | (go_ret;exact ⟨ret_i hv.symm,q9o⟩)
end Go.Proofs.YthlijfligikciaaGreat
namespace Go.Proofs.YthlijfligikciaaGreat
open Go.RowKit Go.Maps
set_option linter.unusedSimpArgs false
set_option linter.unusedVariables false
set_option maxRecDepth 2000
structure Sk (w:World) (k q sq:Nat) (px py lv:Int) (K:Value):Prop where
 c0:w.cell? ⟨k,0,none⟩=some (.pointer (some ⟨q,0,none⟩))
 c1:w.cell? ⟨k,1,none⟩=some (.int .i64 px)
 c2:w.cell? ⟨k,2,none⟩=some (.int .i64 py)
 c3:w.cell? ⟨k,3,none⟩=some (.int .i64 lv)
 c4:w.cell? ⟨k,4,none⟩=some K
 c5:w.cell? ⟨k,5,none⟩=some (.pointer (some ⟨sq,0,none⟩))
theorem Sk.lt {w:World} {k q sq:Nat} {px py lv:Int} {K:Value} (h:Sk w k q sq px py lv K):k < w.heap.size:=cell_lt h.c0
theorem Sk.chg {X:Nat→Prop} {w w':World} {k q sq:Nat} {px py lv:Int} {K:Value} (h:Sk w k q sq px py lv K) (hc:Chg X w w') (h1:¬ X k):Sk w' k q sq px py lv K:=
 ⟨(hc.cell (p:=⟨k,0,none⟩) h.lt h1).trans h.c0,(hc.cell (p:=⟨k,1,none⟩) h.lt h1).trans h.c1,(hc.cell (p:=⟨k,2,none⟩) h.lt h1).trans h.c2,(hc.cell (p:=⟨k,3,none⟩) h.lt h1).trans h.c3,(hc.cell (p:=⟨k,4,none⟩) h.lt h1).trans h.c4,(hc.cell (p:=⟨k,5,none⟩) h.lt h1).trans h.c5⟩
def farI (l x y px py:Int):Int:=distI (x*sd l) (y*sd l) (x*sd l+sd l - 1) (y*sd l+sd l - 1) px py
set_option maxHeartbeats 4000000 in
theorem far_low (k q sq:Nat) (px py lv:Int) (K:Value) (l x y:Int) (w:World) (h:Sk w k q sq px py lv K) (hl:l≤lv) (hr:crightB l x y=true):
  Calls Tryz.prog 121 #[.pointer (some ⟨k,0,none⟩), .agg #[.int .i64 l, .int .i64 x, .int .i64 y]] w fun e w'=>e = .returned (.int .u64 (farI l x y px py))∧Below w.heap.size w w':=by
 have hlt:=h.lt
 obtain ⟨c0,c1,c2,c3,c4,c5⟩:=h
 have hd:decide (lv < l)=false:=decide_eq_false (by omega)
 have pbx:=fun (Y:World)=>box_any l x y Y
 rw [hr] at pbx
 simp only [sel,if_true] at pbx
 unfold farI
 obtain ⟨x0,hx0⟩:∃ c,x*sd l=c:=⟨_,rfl⟩
 obtain ⟨y0,hy0⟩:∃ c,y*sd l=c:=⟨_,rfl⟩
 rw [hx0,hy0] at pbx ⊢
 obtain ⟨x1,hx1⟩:∃ c,x0+sd l - 1=c:=⟨_,rfl⟩
 obtain ⟨y1,hy1⟩:∃ c,y0+sd l - 1=c:=⟨_,rfl⟩
 rw [hx1,hy1] at pbx ⊢
 have PBx:=Lib.hid pbx
 have PD:=Lib.hid (fun (Y:World)=>dist_any x0 y0 x1 y1 px py Y)
 clear pbx hx0 hy0 hx1 hy1 hr hl
 generalize distI x0 y0 x1 y1 px py=dd at PD ⊢
 go_enter Tryz.func121,Tryz.ntmps121
 go_wp2_with fail
 (refine wp_region_later (w.heap.size+1) (by kernel_rfl) (by kernel_rfl) (by go_size) ?_;(repeat (go_big_quiet_step (fail)));refine wpQuiet_nil ?_;intro Xq hlXq hmXq)
 go_wp2_with (first
  | (go_at_call 30;refine (PBx.out _).mono ?_;rintro e w' ⟨rfl,hb⟩;obtain ⟨X1,rfl,hl1,hm1⟩:=later _ hb (Nat.le_refl _);clear hb;(try simp only [q9A,q9B,q9D] at hm1 hl1)))
 (refine wp_region_later (X1.w.heap.size+1) (by kernel_rfl) (by kernel_rfl) (by go_size) ?_;(repeat (go_big_quiet_step ((first|(go_at_call 46;exact Later.call _ (Nat.le_trans (by go_size) (Later.is _).size) (PD.out _))))));refine wpQuiet_nil ?_;intro Xr hlXr hmXr)
 go_wp2_with fail
 go_ret
 exact ⟨rfl,q9l⟩
set_option maxHeartbeats 8000000 in
theorem node_first (k q s sq cc cq n cd:Nat) (C Cq D:Option Addr) (K:Value) (px py lv:Int) (w:World) (h:Sk w k q sq px py lv K) (ht:Pt1 w s q C cc 1 (.slice D n cd)) (hq:Qu w sq Cq 0 cq []) (hl:0≤lv):
  Calls Tryz.prog 88 #[.pointer (some ⟨k,0,none⟩), .int .i64 0] w fun e w'=>e = .returned (.tuple #[])∧∃ C' cc',Qu w' sq C' 1 cc' [.int .u64 (farI 0 0 0 px py), .int .u64 0, .int .i64 0]∧Chg (fun j=>j=sq∨gP Cq j) w w'∧∀ j,gP C' j→gP Cq j∨w.heap.size≤j:=by
 have PF:=Lib.hid (fun (Y:World) (hY:Below w.heap.size w Y)=>far_low k q sq px py lv K 0 0 0 Y (h.chg (X:=fun _=>False) (Chg.of hY) (fun e=>e)) hl (by decide))
 have HQ:=Lib.hid hq
 have hkl:=h.lt
 have hql:=ht.lt
 have c0:=h.c0
 have c5:=h.c5
 have q1:=ht.c1
 obtain ⟨g,cap,hv,hlo,hgl⟩:=ht.own.form (by omega)
 have hC:C=some ⟨g,0,none⟩:=by injection hv
 subst hC
 have hown:=ht.own
 unfold nodeV at hown
 have d0:=hown.cells (g:=g) rfl 0 _ rfl
 have d1:=hown.cells (g:=g) rfl 1 _ rfl
 have d2:=hown.cells (g:=g) rfl 2 _ rfl
 have d3:=hown.cells (g:=g) rfl 3 _ rfl
 have d4:=hown.cells (g:=g) rfl 4 _ rfl
 have d5:=hown.cells (g:=g) rfl 5 _ rfl
 have d6:=hown.cells (g:=g) rfl 6 _ rfl
 have d7:=hown.cells (g:=g) rfl 7 _ rfl
 have d8:=hown.cells (g:=g) rfl 8 _ rfl
 have d9:=hown.cells (g:=g) rfl 9 _ rfl
 rw [Addr.add_lit] at d0 d1 d2 d3 d4 d5 d6 d7 d8 d9
 simp only [Nat.zero_add] at d0 d1 d2 d3 d4 d5 d6 d7 d8 d9
 have d7:w.cell? ⟨g,7,none⟩=some (.int .i64 1):=d7
 clear h ht hq hown hv hl
 generalize farI 0 0 0 px py=dd at PF ⊢
 go_enter Tryz.func88,Tryz.ntmps88
 go_wp2_with fail
 (refine wp_region_later_tail 10 (w.heap.size+1) (by kernel_rfl) (by kernel_rfl) (by go_size) ?_;simp only [List.take_succ_cons,List.take_zero,List.drop_succ_cons,List.drop_zero];(repeat (go_big_quiet_step ((first|(go_at_call 121;exact Later.call _ (Nat.le_trans (by go_size) (Later.is _).size) (PF.out _ q9l))))));refine wpQuiet_nil ?_;intro Xq hlXq hmXq)
 have hbq:Below w.heap.size w Xq.w:=q9l
 go_wp2_with fail
 go_at_call 86
 refine (qpush_none sq cq Cq dd 0 0 _ (HQ.out.keep hbq)).mono ?_
 rintro e w2 ⟨rfl,C',cq',hq,hc,hC⟩
 have HE:=Lib.hid (show Qu w2 sq C' 1 cq' _∧Chg (fun j=>j=sq∨gP Cq j) w w2∧∀ j,gP C' j→gP Cq j∨w.heap.size≤j from ⟨hq,(Chg.of (X:=fun j=>j=sq∨gP Cq j) hbq).trans hc (fun k hk => .inl hk),fun j hj=>(hC j hj).elim .inl (fun h9 => .inr (Nat.le_trans hbq.size h9))⟩)
 clear hq hc hC
 go_wp2_with fail
 exact bodyPost_end (v := .tuple #[]) (by first|rfl|kernel_rfl) rfl ⟨rfl,C',cq',HE.out⟩
end Go.Proofs.YthlijfligikciaaGreat
namespace Go.Proofs.YthlijfligikciaaGreat
open Go.RowKit
section
variable {P:Program} {ops:Array Oper} {Q:Exit→Act→World→Prop} {md:Region.Mode} {S:World→Prop} {E:Nat→Bool}
inductive Waits (md:Region.Mode) (ops:Array Oper) (i:Nat):Nat→Prop
 | one {j:Nat} (h:Region.waitsFor md ops j i=true):Waits md ops i j
 | more {j k:Nat} (h:Region.waitsFor md ops j k=true) (h2:Waits md ops i k):Waits md ops i j
def waitsB (md:Region.Mode) (ops:Array Oper) (i:Nat):Nat→Nat→Bool
 | 0,j=>Region.waitsFor md ops j i
 | n+1,j=>Region.waitsFor md ops j i || (List.range ops.size).any fun k=>Region.waitsFor md ops j k && waitsB md ops i n k
theorem waitsB_spec {i:Nat}:∀ n j,waitsB md ops i n j=true→Waits md ops i j
 | 0,j,h => .one h
 | n+1,j,h=>by
  unfold waitsB at h
  rcases Bool.or_eq_true .. |>.mp h with h|h
  ·exact .one h
  ·obtain ⟨k,_,h4⟩:=List.any_eq_true.1 h
   rw [Bool.and_eq_true] at h4
   exact .more h4.1 (waitsB_spec n k h4.2)
theorem Waits.listed {i j:Nat} (h:Waits md ops i j) {listed:Array Bool} (hc:ClosedL md ops listed):(∀ oj,ops[j]? = some oj→∀ e ∈ oj.after,Region.binds md e=true→listed.getD e.on false=true)→listed.getD i false=true:=by
 induction h with
 | one h=>
  intro hj
  obtain ⟨oj,hoj,e,he,h2,h3⟩:=Region.waitsFor_spec h
  rw [← h3]
  exact hj oj hoj e he h2
 | more h h2 ih=>
  intro hj
  obtain ⟨oj,hoj,e,he,h3,h4⟩:=Region.waitsFor_spec h
  have hk:=hj oj hoj e he h3
  rw [h4] at hk
  exact ih (fun ok hok e' he' hb=>hc _ ok hok hk e' he' hb)
theorem wpAnyE_first3 {i:Nat} {oi:Oper} {v:Value} (hi:ops[i]? = some oi) (hsel:∀ (j:Nat) (o:Oper) cs b,ops[j]? = some o→o.op ≠ .select cs b)
  (hQ:∀ c a w,Q (.panic c) (a.put oi.dst v) w→Q (.panic c) a w):
  ∀ (fuel:Nat) (listed:Array Bool) (a:Act) (w:World),ClosedL md ops listed→
   (∀ j,j < ops.size→E j=false→listed.getD j true=false→Waits md ops i j)→
   (∀ j oj,ops[j]? = some oj→j≠i→listed.getD j true=false→(∀ e ∈ oj.after,Region.binds md e=true→e.on≠i)→oi.apart ops oj=true)→
   i ∈ Region.ready md ops listed→YieldsIf P ops S oi v a→S w→
   wpAnyE P md ops Q S E fuel (listed.setIfInBounds i true) (a.put oi.dst v) w→wpAnyE P md ops Q S E (fuel+1) listed a w:=by
 intro fuel
 induction fuel with
 | zero=>
  intro listed a w _ _ _ hr hy hS H
  refine ⟨fun h=>(by rw [h] at hr;cases hr),fun j hj=>?_⟩
  by_cases hji:j=i
  ·subst hji;exact hy.wpOp hi hS ⟨fun _=>hS,H⟩
  ·have:=ready_mono hj hji
   rw [H.1] at this
   cases this
 | succ fuel ih=>
  intro listed a w hcl hE hfree hr hy hS H
  refine ⟨fun h=>(by rw [h] at hr;cases hr),fun j hj=>?_⟩
  by_cases hji:j=i
  ·subst hji;exact hy.wpOp hi hS ⟨fun _=>hS,H⟩
  ·have h1:=H.2 j (ready_mono hj hji)
   obtain ⟨hjun,oj,hoj,hall⟩:=mem_ready.1 hj
   have hun:listed.getD i false=true→False:=fun h1=>by
    have h0:=(mem_ready.1 hr).1
    rcases Nat.lt_or_ge i listed.size with h'|h'
    ·simp [h'] at h0 h1;rw [h0] at h1;cases h1
    ·simp [Array.getElem?_eq_none h'] at h1
   have hnot:∀ e ∈ oj.after,Region.binds md e=true→e.on≠i:=fun e he hb heq=>by
    have h1:=hall e he hb
    rw [heq] at h1
    exact hun h1
   have hEj:E j=true:=by
    cases hb:E j with
    | true=>rfl
    | false=>
     have h9:=hE j (Array.getElem?_eq_some_iff.1 hoj).1 hb hjun
     exact (hun (h9.listed hcl (fun oj' hoj' e he hb'=>by
      rw [hoj] at hoj'
      injection hoj' with hoj'
      subst hoj'
      exact hall e he hb'))).elim
   have h2:=wpOp_putIf hoj (hfree j oj hoj hji hjun hnot) (fun cs b=>hsel i oi cs b hi) (fun cs b=>hsel j oj cs b hoj) hQ hy h1
   have hfree':∀ k ok,ops[k]? = some ok→k≠i→(listed.setIfInBounds j true).getD k true=false→
     (∀ e ∈ ok.after,Region.binds md e=true→e.on≠i)→oi.apart ops ok=true:=fun k ok hk hki hun hno=>by
    refine hfree k ok hk hki ?_ hno
    by_cases hjk:j=k
    ·subst hjk;exact hjun
    ·rw [getD_set_ne true hjk] at hun;exact hun
   refine wpOp_mono (fun a' w' h3=>⟨h3.2.1,ih (listed.setIfInBounds j true) a' w' (hcl.set hj) (fun k hk hb hu=>hE k hk hb (by
    by_cases hjk:j=k
    ·subst hjk;exact hjun
    ·rw [getD_set_ne true hjk] at hu;exact hu)) hfree' (ready_mono hr (Ne.symm hji)) h3.1 (h3.2.1 hEj) ?_⟩) h2
   rw [Array.setIfInBounds_comm _ _ hji]
   exact h3.2.2
theorem wpAnyE_take3 {i:Nat} {oi:Oper} {v:Value} {fuel:Nat} {listed:Array Bool} {a:Act} {w:World} (hi:ops[i]? = some oi)
  (hs:Region.noSelect ops=true) (hf:Region.free md ops listed i=true) (hr:(Region.ready md ops listed).contains i=true) (hcl:closedB md ops listed=true)
  (hE:((List.range ops.size).all fun j=>E j || listed.getD j true || waitsB md ops i 8 j)=true)
  (hQ:∀ c a w,Q (.panic c) (a.put oi.dst v) w→Q (.panic c) a w) (hy:YieldsIf P ops S oi v a) (hS:S w)
  (h:wpAnyE P md ops Q S E fuel (listed.setIfInBounds i true) (a.put oi.dst v) w):wpAnyE P md ops Q S E (fuel+1) listed a w:=
 wpAnyE_first3 hi (Region.noSelect_spec hs) hQ fuel listed a w (closedB_spec hcl) (fun j hj hb hu=>by
  have h1:=List.all_eq_true.1 hE j (by rw [List.mem_range];exact hj)
  rw [hb,hu,Bool.false_or,Bool.false_or] at h1
  exact waitsB_spec _ _ h1) (Region.free_spec hi hf) (by simpa using hr) hy hS h
end
end Go.Proofs.YthlijfligikciaaGreat
namespace Go.Proofs.YthlijfligikciaaGreat
open Go.RowKit Go.Maps
set_option linter.unusedSimpArgs false
set_option linter.unusedVariables false
set_option maxRecDepth 2000
def farB (l x y px py:Int):Int:=distI (sel (crightB l x y) (x*sd l)) (sel (crightB l x y) (y*sd l)) (sel (crightB l x y) (x*sd l+sd l - 1)) (sel (crightB l x y) (y*sd l+sd l - 1)) px py
def farV (px py lv l x y:Int):Int:=if lv < l then farB (sel (aboveB l x y lv) lv) (sel (aboveB l x y lv) (x / pw (l - lv))) (sel (aboveB l x y lv) (y / pw (l - lv))) px py else farB l x y px py
set_option maxHeartbeats 4000000 in
theorem far_any (k q sq:Nat) (px py lv:Int) (K:Value) (l x y:Int) (w:World) (h:Sk w k q sq px py lv K):
  Calls Tryz.prog 121 #[.pointer (some ⟨k,0,none⟩), .agg #[.int .i64 l, .int .i64 x, .int .i64 y]] w fun e w'=>e = .returned (.int .u64 (farV px py lv l x y))∧Below w.heap.size w w':=by
 have hlt:=h.lt
 obtain ⟨c0,c1,c2,c3,c4,c5⟩:=h
 by_cases hl:lv < l
 ·have hd:decide (lv < l)=true:=decide_eq_true hl
  have pa:=fun (Y:World)=>above_any l x y lv Y
  unfold farV
  rw [if_pos hl]
  obtain ⟨ab,hab⟩:∃ z,aboveB l x y lv=z:=⟨_,rfl⟩
  rw [hab] at pa ⊢
  obtain ⟨al,hal⟩:∃ z,sel ab lv=z:=⟨_,rfl⟩
  obtain ⟨ax,hax⟩:∃ z,sel ab (x / pw (l - lv))=z:=⟨_,rfl⟩
  obtain ⟨ay,hay⟩:∃ z,sel ab (y / pw (l - lv))=z:=⟨_,rfl⟩
  rw [hal,hax,hay] at pa ⊢
  have PA:=Lib.hid pa
  have pbx:=fun (Y:World)=>box_any al ax ay Y
  obtain ⟨cb,hcb⟩:∃ z,crightB al ax ay=z:=⟨_,rfl⟩
  unfold farB
  rw [hcb] at pbx ⊢
  obtain ⟨v1,hv1⟩:∃ z,sel cb (ax*sd al)=z:=⟨_,rfl⟩
  obtain ⟨v2,hv2⟩:∃ z,sel cb (ay*sd al)=z:=⟨_,rfl⟩
  obtain ⟨v3,hv3⟩:∃ z,sel cb (ax*sd al+sd al - 1)=z:=⟨_,rfl⟩
  obtain ⟨v4,hv4⟩:∃ z,sel cb (ay*sd al+sd al - 1)=z:=⟨_,rfl⟩
  rw [hv1,hv2,hv3,hv4] at pbx ⊢
  have PBx:=Lib.hid pbx
  have PD:=Lib.hid (fun (Y:World)=>dist_any v1 v2 v3 v4 px py Y)
  clear pbx hcb hv1 hv2 hv3 hv4
  generalize distI v1 v2 v3 v4 px py=dd at PD ⊢
  clear pa hab hal hax hay hl
  go_enter Tryz.func121,Tryz.ntmps121
  go_wp2_with fail
  (refine wp_region_later (w.heap.size+1) (by kernel_rfl) (by kernel_rfl) (by go_size) ?_;(repeat (go_big_quiet_step (fail)));refine wpQuiet_nil ?_;intro Xq hlXq hmXq)
  go_wp2_with fail
  have hsq:w.heap.size+1≤Xq.w.heap.size:=hlXq
  have HSS:=Lib.hid (show ∀ W',Below (w.heap.size+1) Xq.w W'→(fun w'=>w'.cell? ⟨w.heap.size,0,none⟩=some (.int .i64 l)∧w'.cell? ⟨w.heap.size,1,none⟩=some (.int .i64 x)∧w'.cell? ⟨w.heap.size,2,none⟩=some (.int .i64 y)∧w'.cell? ⟨k,3,none⟩=some (.int .i64 lv)) W' from fun W' hb=>⟨(hb.cell (p:=⟨w.heap.size,0,none⟩) (by show w.heap.size < _;omega)).trans (by go_simp),(hb.cell (p:=⟨w.heap.size,1,none⟩) (by show w.heap.size < _;omega)).trans (by go_simp),(hb.cell (p:=⟨w.heap.size,2,none⟩) (by show w.heap.size < _;omega)).trans (by go_simp),(hb.cell (p:=⟨k,3,none⟩) (by show k < _;omega)).trans (by go_simp)⟩)
  have HBQ:=Lib.hid (show Below w.heap.size w Xq.w from q9l)
  refine wp_region_early (fun w'=>w'.cell? ⟨w.heap.size,0,none⟩=some (.int .i64 l)∧w'.cell? ⟨w.heap.size,1,none⟩=some (.int .i64 x)∧w'.cell? ⟨w.heap.size,2,none⟩=some (.int .i64 y)∧w'.cell? ⟨k,3,none⟩=some (.int .i64 lv)) (fun j=>decide (j < 6)) (by kernel_rfl) (HSS.out _ (Below.drew (Below.refl _ _))) (fun HS=>?_)
  (refine wpAnyE_take3 (i:=0) (v:=?_) rfl (by kernel_rfl) (by kernel_rfl) (by kernel_rfl) (by kernel_rfl) (by kernel_rfl) (fun _ _ _ h=>h) (Or.inl ⟨by rfl,?_⟩) HS ?_;rotate_left 1;(focus (intro w9 hSw;(try dsimp only at hSw);go_simp;all_goals (with_reducible rfl)));(try simp only [Act.put,List.setIfInBounds_toArray,List.set_cons_zero,List.set_cons_succ]))
  (refine wpAnyE_take3 (i:=1) (v:=?_) rfl (by kernel_rfl) (by kernel_rfl) (by kernel_rfl) (by kernel_rfl) (by kernel_rfl) (fun _ _ _ h=>h) (Or.inl ⟨by rfl,?_⟩) HS ?_;rotate_left 1;(focus (intro w9 hSw;(try dsimp only at hSw);go_simp;all_goals (with_reducible rfl)));(try simp only [Act.put,List.setIfInBounds_toArray,List.set_cons_zero,List.set_cons_succ]))
  (refine wpAnyE_take3 (i:=2) (v:=?_) rfl (by kernel_rfl) (by kernel_rfl) (by kernel_rfl) (by kernel_rfl) (by kernel_rfl) (fun _ _ _ h=>h) (Or.inl ⟨by rfl,?_⟩) HS ?_;rotate_left 1;(focus (intro w9 hSw;(try dsimp only at hSw);go_simp;all_goals (with_reducible rfl)));(try simp only [Act.put,List.setIfInBounds_toArray,List.set_cons_zero,List.set_cons_succ]))
  (refine wpAnyE_take3 (i:=3) (v:=?_) rfl (by kernel_rfl) (by kernel_rfl) (by kernel_rfl) (by kernel_rfl) (by kernel_rfl) (fun _ _ _ h=>h) (Or.inl ⟨by rfl,?_⟩) HS ?_;rotate_left 1;(focus (intro w9 hSw;(try dsimp only at hSw);go_simp;all_goals (with_reducible rfl)));(try simp only [Act.put,List.setIfInBounds_toArray,List.set_cons_zero,List.set_cons_succ]))
  (refine wpAnyE_take3 (i:=4) (v:=?_) rfl (by kernel_rfl) (by kernel_rfl) (by kernel_rfl) (by kernel_rfl) (by kernel_rfl) (fun _ _ _ h=>h) (Or.inl ⟨by rfl,?_⟩) HS ?_;rotate_left 1;(focus (intro w9 hSw;(try dsimp only at hSw);go_simp;all_goals (with_reducible rfl)));(try simp only [Act.put,List.setIfInBounds_toArray,List.set_cons_zero,List.set_cons_succ]))
  refine wpAnyE_one (i:=5) rfl (by kernel_rfl) ?_
  go_wp2_with fail
  go_at_call 132
  refine (PA.out _).mono ?_
  rintro e w' ⟨rfl,hb⟩
  have hb':Below (w.heap.size+1) Xq.w w':=(Below.drew (Below.refl _ _)).trans (hb.mono (by simp;exact hsq))
  have hs':=hb'.size
  have hz0:w'.frozen? ⟨w.heap.size,0,none⟩=false:=(hb'.frozen (p:=⟨w.heap.size,0,none⟩) (by show w.heap.size < _;omega)).trans (by go_simp)
  have hz1:w'.frozen? ⟨w.heap.size,1,none⟩=false:=(hb'.frozen (p:=⟨w.heap.size,1,none⟩) (by show w.heap.size < _;omega)).trans (by go_simp)
  have hz2:w'.frozen? ⟨w.heap.size,2,none⟩=false:=(hb'.frozen (p:=⟨w.heap.size,2,none⟩) (by show w.heap.size < _;omega)).trans (by go_simp)
  have f1:w'.cell? ⟨k,1,none⟩=some (.int .i64 px):=(hb'.cell (p:=⟨k,1,none⟩) (by show k < _;omega)).trans (by go_simp)
  have f2:w'.cell? ⟨k,2,none⟩=some (.int .i64 py):=(hb'.cell (p:=⟨k,2,none⟩) (by show k < _;omega)).trans (by go_simp)
  have HB':=Lib.hid (HBQ.out.trans (hb'.mono (Nat.le_succ _)))
  have HS:=HSS.out _ hb'
  obtain ⟨e0,e1,e2,e3⟩:=HSS.out _ hb'
  clear hb hb'
  go_wp2_with fail
  first|refine ⟨fun _=>HS,?_⟩|skip
  (refine wpAnyE_takeP (i:=6) (v:=?_) rfl (by kernel_rfl) (by kernel_rfl) (by kernel_rfl) (by kernel_rfl) (fun _ _ _ h=>h) (Or.inl ⟨by rfl,?_⟩) ?_;rotate_left 1;(focus (intro w9 _;go_simp;all_goals (with_reducible rfl)));(try simp only [Act.put,List.setIfInBounds_toArray,List.set_cons_zero,List.set_cons_succ]))
  (refine wpAnyE_takeP (i:=7) (v:=?_) rfl (by kernel_rfl) (by kernel_rfl) (by kernel_rfl) (by kernel_rfl) (fun _ _ _ h=>h) (Or.inl ⟨by rfl,?_⟩) ?_;rotate_left 1;(focus (intro w9 _;go_simp;all_goals (with_reducible rfl)));(try simp only [Act.put,List.setIfInBounds_toArray,List.set_cons_zero,List.set_cons_succ]))
  (refine wpAnyE_takeP (i:=8) (v:=?_) rfl (by kernel_rfl) (by kernel_rfl) (by kernel_rfl) (by kernel_rfl) (fun _ _ _ h=>h) (Or.inl ⟨by rfl,?_⟩) ?_;rotate_left 1;(focus (intro w9 _;go_simp;all_goals (with_reducible rfl)));(try simp only [Act.put,List.setIfInBounds_toArray,List.set_cons_zero,List.set_cons_succ]))
  refine wpAnyE_one (i:=9) rfl (by kernel_rfl) ?_
  go_wp2_with fail
  first|refine ⟨fun h=>absurd h (by decide),?_⟩|skip
  refine ⟨by kernel_rfl,?_⟩
  go_wp2_with fail
  go_at_call 30
  have k1:(((w'.setCell ⟨w.heap.size,0,none⟩ (.int .i64 al)).setCell ⟨w.heap.size,1,none⟩ (.int .i64 ax)).setCell ⟨w.heap.size,2,none⟩ (.int .i64 ay)).cell? ⟨k,1,none⟩=some (.int .i64 px):=by go_simp
  have k2:(((w'.setCell ⟨w.heap.size,0,none⟩ (.int .i64 al)).setCell ⟨w.heap.size,1,none⟩ (.int .i64 ax)).setCell ⟨w.heap.size,2,none⟩ (.int .i64 ay)).cell? ⟨k,2,none⟩=some (.int .i64 py):=by go_simp
  have hV:=((HB'.out.setCell (p:=⟨w.heap.size,0,none⟩) (Nat.le_refl _) (.int .i64 al)).setCell (p:=⟨w.heap.size,1,none⟩) (Nat.le_refl _) (.int .i64 ax)).setCell (p:=⟨w.heap.size,2,none⟩) (Nat.le_refl _) (.int .i64 ay)
  generalize ((w'.setCell ⟨w.heap.size,0,none⟩ (.int .i64 al)).setCell ⟨w.heap.size,1,none⟩ (.int .i64 ax)).setCell ⟨w.heap.size,2,none⟩ (.int .i64 ay)=V at k1 k2 hV ⊢
  have hsV:=hV.size
  have HV:=Lib.hid hV
  clear hV e0 e1 e2 e3 f1 f2 hz0 hz1 hz2 HS
  refine (PBx.out _).mono ?_
  rintro e w' ⟨rfl,hb⟩;obtain ⟨X2,rfl,hl2,hm2⟩:=later _ hb (Nat.le_refl _);clear hb;(try simp only [q9A,q9B,q9D] at hm2 hl2)
  go_wp2_with fail
  (refine wp_region_later (X2.w.heap.size+1) (by kernel_rfl) (by kernel_rfl) (by go_size) ?_;(repeat (go_big_quiet_step ((first|(go_at_call 46;exact Later.call _ (Nat.le_trans (by go_size) (Later.is _).size) (PD.out _))))));refine wpQuiet_nil ?_;intro Xs hlXs hmXs)
  have hVs:Below V.heap.size V Xs.w:=q9l
  go_wp2_with fail
  go_ret
  exact ⟨rfl,HV.out.trans (hVs.mono hsV)⟩
 ·have hd:decide (lv < l)=false:=decide_eq_false hl
  have pbx:=fun (Y:World)=>box_any l x y Y
  unfold farV
  rw [if_neg hl]
  obtain ⟨cb,hcb⟩:∃ z,crightB l x y=z:=⟨_,rfl⟩
  unfold farB
  rw [hcb] at pbx ⊢
  obtain ⟨v1,hv1⟩:∃ z,sel cb (x*sd l)=z:=⟨_,rfl⟩
  obtain ⟨v2,hv2⟩:∃ z,sel cb (y*sd l)=z:=⟨_,rfl⟩
  obtain ⟨v3,hv3⟩:∃ z,sel cb (x*sd l+sd l - 1)=z:=⟨_,rfl⟩
  obtain ⟨v4,hv4⟩:∃ z,sel cb (y*sd l+sd l - 1)=z:=⟨_,rfl⟩
  rw [hv1,hv2,hv3,hv4] at pbx ⊢
  have PBx:=Lib.hid pbx
  have PD:=Lib.hid (fun (Y:World)=>dist_any v1 v2 v3 v4 px py Y)
  clear pbx hcb hv1 hv2 hv3 hv4
  generalize distI v1 v2 v3 v4 px py=dd at PD ⊢
  clear hl
  go_enter Tryz.func121,Tryz.ntmps121
  go_wp2_with fail
  (refine wp_region_later (w.heap.size+1) (by kernel_rfl) (by kernel_rfl) (by go_size) ?_;(repeat (go_big_quiet_step (fail)));refine wpQuiet_nil ?_;intro Xq hlXq hmXq)
  go_wp2_with (first
   | (go_at_call 30;refine (PBx.out _).mono ?_;rintro e w' ⟨rfl,hb⟩;obtain ⟨X1,rfl,hl1,hm1⟩:=later _ hb (Nat.le_refl _);clear hb;(try simp only [q9A,q9B,q9D] at hm1 hl1)))
  (refine wp_region_later (X1.w.heap.size+1) (by kernel_rfl) (by kernel_rfl) (by go_size) ?_;(repeat (go_big_quiet_step ((first|(go_at_call 46;exact Later.call _ (Nat.le_trans (by go_size) (Later.is _).size) (PD.out _))))));refine wpQuiet_nil ?_;intro Xr hlXr hmXr)
  go_wp2_with fail
  go_ret
  exact ⟨rfl,q9l⟩
end Go.Proofs.YthlijfligikciaaGreat
namespace Go.Proofs.YthlijfligikciaaGreat
open Go
set_option linter.unusedSimpArgs false
set_option linter.unusedVariables false
structure En where
 key:Int
 tie:Int
 item:Int
def en0:En:=⟨0,0,0⟩
def ltE (a b:En):Prop:=a.key < b.key∨(a.key=b.key∧(a.tie < b.tie∨(a.tie=b.tie∧a.item < b.item)))
instance (a b:En):Decidable (ltE a b):=by unfold ltE;infer_instance
def leE (a b:En):Prop:=¬ ltE b a
theorem leE_refl (a:En):leE a a:=by unfold leE ltE;omega
theorem leE_trans {a b c:En} (h:leE a b) (h':leE b c):leE a c:=by unfold leE ltE at *;omega
theorem leE_of_lt {a b:En} (h:ltE a b):leE a b:=by unfold leE ltE at *;omega
theorem leE_antisymm {a b:En} (h:leE a b) (h':leE b a):a=b:=by
 obtain ⟨x,y,z⟩:=a
 obtain ⟨x',y',z'⟩:=b
 unfold leE ltE at*
 simp only at h h'
 obtain rfl:x=x':=by omega
 obtain rfl:y=y':=by omega
 obtain rfl:z=z':=by omega
 rfl
def atE (es:List En) (i:Nat):En:=es.getD i en0
theorem atE_lt {es:List En} {i:Nat} (h:i < es.length):atE es i=es[i]:=by simp [atE,List.getD,List.getElem?_eq_getElem h]
def swapE (es:List En) (i j:Nat):List En:=(es.set i (atE es j)).set j (atE es i)
theorem swapE_len (es:List En) (i j:Nat):(swapE es i j).length=es.length:=by simp [swapE]
theorem swapE_perm {es:List En} {i j:Nat} (hi:i < es.length) (hj:j < es.length):(swapE es i j).Perm es:=by
 unfold swapE
 rw [atE_lt hi,atE_lt hj]
 exact List.set_set_perm hi hj
theorem swapE_at {es:List En} {i j k:Nat} (hi:i < es.length) (hj:j < es.length) (hk:k < es.length):atE (swapE es i j) k=if k=j then atE es i else if k=i then atE es j else atE es k:=by
 rw [atE_lt (by rw [swapE_len];exact hk),atE_lt hk]
 unfold swapE
 rw [List.getElem_set]
 by_cases h:j=k
 ·subst h;simp
 ·rw [if_neg h,if_neg (fun e=>h e.symm),List.getElem_set]
  by_cases h2:i=k
  ·subst h2;simp
  ·rw [if_neg h2,if_neg (fun e=>h2 e.symm)]
def HeapN (es:List En) (n:Nat):Prop:=∀ k,0 < k→k < n→leE (atE es ((k - 1) / 2)) (atE es k)
def UpI (es:List En) (n j:Nat):Prop:=(∀ k,0 < k→k < n→k≠j→leE (atE es ((k - 1) / 2)) (atE es k))∧∀ k,0 < k→k < n→(k - 1) / 2=j→0 < j→leE (atE es ((j - 1) / 2)) (atE es k)
def DnI (es:List En) (n i:Nat):Prop:=(∀ k,0 < k→k < n→(k - 1) / 2≠i→leE (atE es ((k - 1) / 2)) (atE es k))∧∀ k,0 < k→k < n→(k - 1) / 2=i→0 < i→leE (atE es ((i - 1) / 2)) (atE es k)
theorem heap_root {es:List En} {n:Nat} (h:HeapN es n):∀ k,k < n→leE (atE es 0) (atE es k):=by
 intro k
 induction k using Nat.strongRecOn with
 | _ k ih=>
  intro hk
  by_cases h0:k=0
  ·subst h0;exact leE_refl _
  ·exact leE_trans (ih ((k - 1) / 2) (by omega) (by omega)) (h k (by omega) hk)
theorem up_done {es:List En} {n j:Nat} (h:UpI es n j) (hd:j=0∨leE (atE es ((j - 1) / 2)) (atE es j)):HeapN es n:=fun k hk hkn=>by
 by_cases e:k=j
 ·subst e
  rcases hd with h0|h0
  ·omega
  ·exact h0
 ·exact h.1 k hk hkn e
theorem up_step {es:List En} {n j:Nat} (hn:n≤es.length) (h:UpI es n j) (hj:0 < j) (hjn:j < n) (hl:ltE (atE es j) (atE es ((j - 1) / 2))):UpI (swapE es ((j - 1) / 2) j) n ((j - 1) / 2):=by
 have hp:(j - 1) / 2 < n:=by omega
 have hs:∀ k,k < n→atE (swapE es ((j - 1) / 2) j) k=if k=j then atE es ((j - 1) / 2) else if k=(j - 1) / 2 then atE es j else atE es k:=fun k hk=>swapE_at (by omega) (by omega) (by omega)
 refine ⟨fun k hk hkn hkp=>?_,fun k hk hkn hkp hp0=>?_⟩
 ·rw [hs k hkn,hs ((k - 1) / 2) (by omega)]
  by_cases e:k=j
  ·subst e
   rw [if_pos rfl,if_neg (by omega),if_pos rfl]
   exact leE_of_lt hl
  ·rw [if_neg e,if_neg hkp]
   by_cases e2:(k - 1) / 2=j
   ·rw [if_pos e2]
    exact h.2 k hk hkn e2 hj
   ·rw [if_neg e2]
    by_cases e3:(k - 1) / 2=(j - 1) / 2
    ·rw [if_pos e3]
     have:=h.1 k hk hkn e
     rw [e3] at this
     exact leE_trans (leE_of_lt hl) this
    ·rw [if_neg e3]
     exact h.1 k hk hkn e
 ·rw [hs k hkn,hs (((j - 1) / 2 - 1) / 2) (by omega),if_neg (show ¬ ((j - 1) / 2 - 1) / 2=j by omega),if_neg (show ¬ ((j - 1) / 2 - 1) / 2=(j - 1) / 2 by omega)]
  have hpp:=h.1 ((j - 1) / 2) hp0 hp (by omega)
  by_cases e:k=j
  ·rw [if_pos e]
   exact hpp
  ·rw [if_neg e,if_neg (by omega)]
   have:=h.1 k hk hkn e
   rw [hkp] at this
   exact leE_trans hpp this
theorem up_start {es:List En} {n:Nat} (h:HeapN es n) (e:En) (hl:es.length=n):UpI (es ++ [e]) (n+1) n:=by
 have hs:∀ k,k < n→atE (es ++ [e]) k=atE es k:=fun k hk=>by simp [atE,List.getD,List.getElem?_append_left (show k < es.length by omega)]
 refine ⟨fun k hk hkn hkp=>?_,fun k hk hkn hkp _=>?_⟩
 ·rw [hs k (by omega),hs ((k - 1) / 2) (by omega)]
  exact h k hk (by omega)
 ·omega
theorem dn_done {es:List En} {n i:Nat} (h:DnI es n i) (hd:∀ k,0 < k→k < n→(k - 1) / 2=i→leE (atE es i) (atE es k)):HeapN es n:=fun k hk hkn=>by
 by_cases e:(k - 1) / 2=i
 ·rw [e];exact hd k hk hkn e
 ·exact h.1 k hk hkn e
theorem dn_step {es:List En} {n i j:Nat} (hn:n≤es.length) (h:DnI es n i) (hj:0 < j) (hjn:j < n) (hji:(j - 1) / 2=i) (hl:ltE (atE es j) (atE es i)) (hmin:∀ k,0 < k→k < n→(k - 1) / 2=i→leE (atE es j) (atE es k)):DnI (swapE es i j) n j:=by
 have hs:∀ k,k < n→atE (swapE es i j) k=if k=j then atE es i else if k=i then atE es j else atE es k:=fun k hk=>swapE_at (by omega) (by omega) (by omega)
 refine ⟨fun k hk hkn hkp=>?_,fun k hk hkn hkp hp0=>?_⟩
 ·rw [hs k hkn,hs ((k - 1) / 2) (by omega),if_neg hkp]
  by_cases e:(k - 1) / 2=i
  ·rw [if_pos e]
   by_cases e2:k=j
   ·rw [if_pos e2];exact leE_of_lt hl
   ·rw [if_neg e2,if_neg (by omega)]
    exact hmin k hk hkn e
  ·rw [if_neg e]
   by_cases e2:k=j
   ·exact absurd (by rw [e2];exact hji) e
   ·rw [if_neg e2]
    by_cases e3:k=i
    ·rw [if_pos e3]
     subst e3
     exact h.2 j hj hjn hji hk
    ·rw [if_neg e3]
     exact h.1 k hk hkn e
 ·rw [hs k hkn,hs ((j - 1) / 2) (by omega),if_neg (by omega),if_pos hji,if_neg (by omega),if_neg (by omega)]
  have:=h.1 k hk hkn (by omega)
  rw [hkp] at this
  exact this
theorem dn_start {es:List En} {n:Nat} (h:HeapN es (n+1)) (hl:es.length=n+1):DnI (swapE es 0 n) n 0:=by
 have hs:∀ k,k < n+1→atE (swapE es 0 n) k=if k=n then atE es 0 else if k=0 then atE es n else atE es k:=fun k hk=>swapE_at (by omega) (by omega) (by omega)
 refine ⟨fun k hk hkn hkp=>?_,fun k hk hkn hkp h0=>absurd h0 (by omega)⟩
 rw [hs k (by omega),hs ((k - 1) / 2) (by omega),if_neg (show ¬ (k - 1) / 2=n by omega),if_neg hkp,if_neg (show ¬ k=n by omega),if_neg (show ¬ k=0 by omega)]
 exact h k hk (by omega)
theorem pop_perm {es fs:List En} {n:Nat} (hl:es.length=n+1) (hp:fs.Perm (swapE es 0 n)) (hlast:atE fs n=atE es 0):es.Perm (atE es 0 :: fs.take n):=by
 have hfl:fs.length=n+1:=by rw [hp.length_eq,swapE_len,hl]
 have h1:fs=fs.take n ++ [atE fs n]:=by
  rw [atE_lt (by omega)]
  have:=List.take_succ_eq_append_getElem (show n < fs.length by omega)
  rw [← this,List.take_of_length_le (by omega)]
 have h2:es.Perm fs:=(swapE_perm (by omega) (by omega)).symm.trans hp.symm
 rw [h1,hlast] at h2
 exact h2.trans (List.perm_append_singleton _ _)
theorem heap_take {es:List En} {n:Nat} (h:HeapN es n):HeapN (es.take n) n:=fun k hk hkn=>by
 have hs:∀ k,k < n→atE (es.take n) k=atE es k:=fun k hk=>by simp [atE,List.getD,List.getElem?_take,hk]
 rw [hs k hkn,hs _ (by omega)]
 exact h k hk hkn
end Go.Proofs.YthlijfligikciaaGreat
