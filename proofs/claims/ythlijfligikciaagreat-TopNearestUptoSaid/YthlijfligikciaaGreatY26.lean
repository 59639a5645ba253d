/- A part of one proof: HpA HpB. No condition. -/
import Derived.Test.YthlijfligikciaaGreatY24
import Derived.Test.YthlijfligikciaaGreatY25
import Derived.Test.YthlijfligikciaaGreatY13
import Derived.Test.YthlijfligikciaaGreatY16
namespace Go.Proofs.YthlijfligikciaaGreat
open Go.RowKit Go.Maps
set_option linter.unusedSimpArgs false
set_option linter.unusedVariables false
set_option maxRecDepth 2000
def enC (e:En):List Value:=[.int .u64 e.key, .int .u64 e.tie, .int .i64 e.item]
def enV (es:List En):List Value:=es.flatMap enC
theorem enV_app (es:List En) (e:En):enV (es ++ [e])=enV es ++ enC e:=by simp [enV]
theorem enV_get:∀ (es:List En) (i:Nat),i < es.length→∀ j,j < 3→(enV es)[i*3+j]? = (enC (atE es i))[j]?
 | e :: es,0,_,j,hj=>by
  simp only [enV,List.flatMap_cons,Nat.zero_mul,Nat.zero_add]
  rw [List.getElem?_append_left (by show j < 3;exact hj)]
  rfl
 | e :: es,i+1,h,j,hj=>by
  have ih:=enV_get es i (by simpa using h) j hj
  simp only [enV,List.flatMap_cons] at ih ⊢
  have h3:(enC e).length=3:=rfl
  rw [List.getElem?_append_right (by omega),h3,show (i+1)*3+j - 3=i*3+j by omega,ih]
  rfl
theorem enV_set:∀ (es:List En) (i:Nat) (e:En),i < es.length→(((enV es).set (i*3) (.int .u64 e.key)).set (i*3+1) (.int .u64 e.tie)).set (i*3+2) (.int .i64 e.item)=enV (es.set i e)
 | a :: es,0,e,_=>rfl
 | a :: es,i+1,e,h=>by
  have ih:=enV_set es i e (by simpa using h)
  have h3:(enC a).length=3:=rfl
  simp only [enV,List.flatMap_cons,List.set_cons_succ] at ih ⊢
  rw [List.set_append_right _ _ (by omega),List.set_append_right _ _ (by omega),List.set_append_right _ _ (by omega),h3,show (i+1)*3 - 3=i*3 by omega,show (i+1)*3+1 - 3=i*3+1 by omega,show (i+1)*3+2 - 3=i*3+2 by omega,ih]
theorem enV_take (es:List En) (n:Nat):(enV es).take (n*3)=enV (es.take n):=by
 induction es generalizing n with
 | nil=>simp [enV]
 | cons e es ih=>
  match n with
  | 0=>simp [enV]
  | n+1=>
   have h3:(enC e).length=3:=rfl
   simp only [enV,List.flatMap_cons,List.take_succ_cons] at ih ⊢
   rw [List.take_append,h3,show (n+1)*3 - 3=n*3 by omega,ih,List.take_of_length_le (by omega)]
theorem qu_g {w:World} {s n cc:Nat} {C:Option Addr} {xs:List Value} (h:Qu w s C n cc xs) (hn:0 < n):∃ g,C=some ⟨g,0,none⟩∧s < g∧g < w.heap.size:=by
 obtain ⟨g,cap,hv,hlo,hgl⟩:=h.own.form hn
 exact ⟨g,by injection hv,by omega,hgl⟩
theorem qu_cells {w:World} {s n cc g i:Nat} {es:List En} (h:Qu w s (some ⟨g,0,none⟩) n cc (enV es)) (hi:i < es.length):w.cell? ⟨g,i*3,none⟩=some (.int .u64 (atE es i).key)∧w.cell? ⟨g,i*3+1,none⟩=some (.int .u64 (atE es i).tie)∧w.cell? ⟨g,i*3+2,none⟩=some (.int .i64 (atE es i).item):=by
 have hc:∀ j,j < 3→∀ v,(enC (atE es i))[j]? = some v→w.cell? ⟨g,i*3+j,none⟩=some v:=fun j hj v hv=>by
  have:=h.own.cells (g:=g) rfl (i*3+j) v (by rw [enV_get es i hi j hj];exact hv)
  rw [Addr.add_lit,Nat.zero_add] at this
  exact this
 exact ⟨hc 0 (by decide) _ rfl,hc 1 (by decide) _ rfl,hc 2 (by decide) _ rfl⟩
theorem own_take {w:World} {base n m size cc:Nat} {e:TypeId} {C:Option Addr} {xs:List Value} (h:w.ownsRow base e size (.slice C n cc) n xs) (hm:m≤n) (hn:0 < n):w.ownsRow base e size (.slice C m cc) m (xs.take (m*size)):=by
 have hmul:m*size≤n*size:=Nat.mul_le_mul_right _ hm
 refine ⟨by rw [List.length_take,h.1];omega,?_⟩
 rcases h.2 with ⟨_,h0⟩|⟨g,cap,cur,hv,hb,hg,h1,h2,h3,h4⟩
 ·omega
 ·injection hv with e1 e2 e3
  subst e1 e3
  exact .inr ⟨g,cc,cur,rfl,hb,hg,by omega,h2,h3,by rw [← h4,List.take_take,Nat.min_eq_left hmul]⟩
set_option maxHeartbeats 4000000 in
theorem qless_any (a b:En) (w:World):Calls Tryz.prog 229 #[.agg #[.int .u64 a.key, .int .u64 a.tie, .int .i64 a.item], .agg #[.int .u64 b.key, .int .u64 b.tie, .int .i64 b.item]] w fun e w'=>e = .returned (.bool (decide (ltE a b)))∧Below w.heap.size w w':=by
 unfold ltE
 obtain ⟨x,y,z⟩:=a
 obtain ⟨x',y',z'⟩:=b
 by_cases h1:x=x'
 ·by_cases h2:y=y'
  ·subst h1 h2
   go_enter Tryz.func229,Tryz.ntmps229
   go_wp2
   go_ret
   exact ⟨ret_b (by simp),q9o⟩
  ·subst h1
   have e2:(y != y')=true:=by simpa using h2
   go_enter Tryz.func229,Tryz.ntmps229
   go_wp2
   go_ret
   exact ⟨ret_b (by simp [h2]),q9o⟩
 ·have e1:(x != x')=true:=by simpa using h1
  go_enter Tryz.func229,Tryz.ntmps229
  go_wp2
  go_ret
  exact ⟨ret_b (by simp [h1]),q9o⟩
set_option maxHeartbeats 4000000 in
theorem tless_any (s n cc i j:Nat) (C:Option Addr) (es:List En) (w:World) (h:Qu w s C n cc (enV es)) (hl:es.length=n) (hi:i < n) (hj:j < n):Calls Tryz.prog 225 #[.pointer (some ⟨s,0,none⟩), .int .i64 i, .int .i64 j] w fun e w'=>e = .returned (.bool (decide (ltE (atE es i) (atE es j))))∧Below w.heap.size w w':=by
 obtain ⟨g,rfl,hsg,hgl⟩:=qu_g h (by omega)
 obtain ⟨a0,a1,a2⟩:=qu_cells h (i:=i) (by omega)
 obtain ⟨b0,b1,b2⟩:=qu_cells h (i:=j) (by omega)
 have c0:=h.c0
 have hs:=h.lt
 have PL:=Lib.hid (fun (Y:World)=>qless_any (atE es i) (atE es j) Y)
 obtain ⟨a,ha⟩:∃ a,atE es i=a:=⟨_,rfl⟩
 obtain ⟨b,hb⟩:∃ b,atE es j=b:=⟨_,rfl⟩
 rw [ha] at a0 a1 a2 PL
 rw [hb] at b0 b1 b2 PL
 rw [ha,hb]
 clear h ha hb hl
 go_enter Tryz.func225,Tryz.ntmps225
 go_wp2_with fail
 (refine wp_region_later (w.heap.size) (by kernel_rfl) (by kernel_rfl) (by go_size) ?_;(repeat (go_big_quiet_step ((first|(go_at_call 229;exact Later.call _ (Nat.le_trans (by go_size) (Later.is _).size) (PL.out _))))));refine wpQuiet_nil ?_;intro Xq hlXq hmXq)
 go_wp2_with fail
 go_ret
 exact ⟨rfl,q9l⟩
set_option maxHeartbeats 8000000 in
theorem tpop_any (s n cc:Nat) (C:Option Addr) (es:List En) (w:World) (h:Qu w s C (n+1) cc (enV es)) (hl:es.length=n+1) (hn:n≤1000000):
  Calls Tryz.prog 226 #[.pointer (some ⟨s,0,none⟩)] w fun e w'=>e = .returned (.iface 165 (.agg (enC (atE es n)).toArray))∧Qu w' s C n cc (enV (es.take n))∧Chg (fun j=>j=s) w w':=by
 have H:=Lib.hid h
 have c0:=h.c0
 have fz:=h.fz
 have hs:=h.lt
 obtain ⟨g,rfl,hsg,hgl⟩:=qu_g h (by omega)
 obtain ⟨d0,d1,d2⟩:=qu_cells h (i:=n) (by omega)
 obtain ⟨a,ha⟩:∃ a,atE es n=a:=⟨_,rfl⟩
 have hle:n≤cc:=by
  rcases h.own.2 with ⟨_,h0⟩|⟨g',cap,cur,hv,hb,hg,h1,h2,h3,h4⟩
  ·omega
  ·injection hv with e1 e2 e3
   omega
 have hle2:(n:Int)≤(cc:Int):=by omega
 have hcc:0 < cc:=by
  rcases h.own.2 with ⟨_,h0⟩|⟨g',cap,cur,hv,hb,hg,h1,h2,h3,h4⟩
  ·omega
  ·injection hv with e1 e2 e3
   omega
 rw [ha] at d0 d1 d2
 rw [ha]
 clear h ha
 unfold enC
 have hne:s≠g:=by omega
 go_enter Tryz.func226,Tryz.ntmps226
 go_wp2_with fail
 go_ret
 refine ⟨rfl,⟨by go_simp,by go_simp,(own_set (by rw [← enV_take];exact own_take H.out.own (Nat.le_succ n) (by omega)) (p:=⟨s,0,none⟩) (by show s < s+1;omega) _).alloc _⟩,((Chg.refl (X:=fun j=>j=s)).set (p:=⟨s,0,none⟩) (.inl rfl) _).alloc _⟩
set_option maxHeartbeats 16000000 in
theorem tswap_any (s n cc i j:Nat) (C:Option Addr) (es:List En) (w:World) (h:Qu w s C n cc (enV es)) (hl:es.length=n) (hi:i < n) (hj:j < n) (hn:n≤1000000):
  Calls Tryz.prog 228 #[.pointer (some ⟨s,0,none⟩), .int .i64 i, .int .i64 j] w fun e w'=>e = .returned (.tuple #[])∧Qu w' s C n cc (enV (swapE es i j))∧Chg (gP C) w w':=by
 have H:=Lib.hid h
 have c0:=h.c0
 have fz:=h.fz
 have hs:=h.lt
 obtain ⟨g,rfl,hsg,hgl⟩:=qu_g h (by omega)
 obtain ⟨a0,a1,a2⟩:=qu_cells h (i:=i) (by omega)
 obtain ⟨b0,b1,b2⟩:=qu_cells h (i:=j) (by omega)
 have f0:=h.own.frozenAt (i*3)
 have f1:=h.own.frozenAt (i*3+1)
 have f2:=h.own.frozenAt (i*3+2)
 have g0:=h.own.frozenAt (j*3)
 have g1:=h.own.frozenAt (j*3+1)
 have g2:=h.own.frozenAt (j*3+2)
 obtain ⟨a,ha⟩:∃ a,atE es i=a:=⟨_,rfl⟩
 obtain ⟨b,hb⟩:∃ b,atE es j=b:=⟨_,rfl⟩
 rw [ha] at a0 a1 a2
 rw [hb] at b0 b1 b2
 have HL:=Lib.hid (And.intro hl (And.intro ha hb))
 clear h hl ha hb
 go_enter Tryz.func228,Tryz.ntmps228
 have HS:(fun w'=>w'.cell? ⟨s,0,none⟩=some (.slice (some ⟨g,0,none⟩) n cc)∧w'.cell? ⟨g,i*3,none⟩=some (.int .u64 a.key)∧w'.cell? ⟨g,i*3+1,none⟩=some (.int .u64 a.tie)∧w'.cell? ⟨g,i*3+2,none⟩=some (.int .i64 a.item)∧w'.cell? ⟨g,j*3,none⟩=some (.int .u64 b.key)∧w'.cell? ⟨g,j*3+1,none⟩=some (.int .u64 b.tie)∧w'.cell? ⟨g,j*3+2,none⟩=some (.int .i64 b.item)) w.drew:=⟨by go_simp,by go_simp,by go_simp,by go_simp,by go_simp,by go_simp,by go_simp⟩
 refine wp_region_early (fun w'=>w'.cell? ⟨s,0,none⟩=some (.slice (some ⟨g,0,none⟩) n cc)∧w'.cell? ⟨g,i*3,none⟩=some (.int .u64 a.key)∧w'.cell? ⟨g,i*3+1,none⟩=some (.int .u64 a.tie)∧w'.cell? ⟨g,i*3+2,none⟩=some (.int .i64 a.item)∧w'.cell? ⟨g,j*3,none⟩=some (.int .u64 b.key)∧w'.cell? ⟨g,j*3+1,none⟩=some (.int .u64 b.tie)∧w'.cell? ⟨g,j*3+2,none⟩=some (.int .i64 b.item)) (fun k=>decide (k ∈ [3,8,13,15,16,20,22,23,24])) (by kernel_rfl) HS (fun HS=>?_)
 (refine wpAnyE_takeP (i:=0) (v:=?_) rfl (by kernel_rfl) (by kernel_rfl) (by kernel_rfl) (by kernel_rfl) (fun _ _ _ h=>h) (Or.inl ⟨by rfl,?_⟩) ?_;rotate_left 1;(focus (intro w9 _;go_simp;all_goals (with_reducible rfl)));(try simp only [Act.put,List.setIfInBounds_toArray,List.set_cons_zero,List.set_cons_succ]))
 (refine wpAnyE_takeP (i:=1) (v:=?_) rfl (by kernel_rfl) (by kernel_rfl) (by kernel_rfl) (by kernel_rfl) (fun _ _ _ h=>h) (Or.inl ⟨by rfl,?_⟩) ?_;rotate_left 1;(focus (intro w9 _;go_simp;all_goals (with_reducible rfl)));(try simp only [Act.put,List.setIfInBounds_toArray,List.set_cons_zero,List.set_cons_succ]))
 (refine wpAnyE_takeP (i:=2) (v:=?_) rfl (by kernel_rfl) (by kernel_rfl) (by kernel_rfl) (by kernel_rfl) (fun _ _ _ h=>h) (Or.inl ⟨by rfl,?_⟩) ?_;rotate_left 1;(focus (intro w9 _;go_simp;all_goals (with_reducible rfl)));(try simp only [Act.put,List.setIfInBounds_toArray,List.set_cons_zero,List.set_cons_succ]))
 (refine wpAnyE_takeP (i:=4) (v:=?_) rfl (by kernel_rfl) (by kernel_rfl) (by kernel_rfl) (by kernel_rfl) (fun _ _ _ h=>h) (Or.inl ⟨by rfl,?_⟩) ?_;rotate_left 1;(focus (intro w9 _;go_simp;all_goals (with_reducible rfl)));(try simp only [Act.put,List.setIfInBounds_toArray,List.set_cons_zero,List.set_cons_succ]))
 (refine wpAnyE_takeP (i:=5) (v:=?_) rfl (by kernel_rfl) (by kernel_rfl) (by kernel_rfl) (by kernel_rfl) (fun _ _ _ h=>h) (Or.inl ⟨by rfl,?_⟩) ?_;rotate_left 1;(focus (intro w9 _;go_simp;all_goals (with_reducible rfl)));(try simp only [Act.put,List.setIfInBounds_toArray,List.set_cons_zero,List.set_cons_succ]))
 (refine wpAnyE_takeP (i:=6) (v:=?_) rfl (by kernel_rfl) (by kernel_rfl) (by kernel_rfl) (by kernel_rfl) (fun _ _ _ h=>h) (Or.inl ⟨by rfl,?_⟩) ?_;rotate_left 1;(focus (intro w9 _;go_simp;all_goals (with_reducible rfl)));(try simp only [Act.put,List.setIfInBounds_toArray,List.set_cons_zero,List.set_cons_succ]))
 (refine wpAnyE_takeP (i:=7) (v:=?_) rfl (by kernel_rfl) (by kernel_rfl) (by kernel_rfl) (by kernel_rfl) (fun _ _ _ h=>h) (Or.inl ⟨by rfl,?_⟩) ?_;rotate_left 1;(focus (intro w9 _;go_simp;all_goals (with_reducible rfl)));(try simp only [Act.put,List.setIfInBounds_toArray,List.set_cons_zero,List.set_cons_succ]))
 (refine wpAnyE_takeP (i:=9) (v:=?_) rfl (by kernel_rfl) (by kernel_rfl) (by kernel_rfl) (by kernel_rfl) (fun _ _ _ h=>h) (Or.inl ⟨by rfl,?_⟩) ?_;rotate_left 1;(focus (intro w9 _;go_simp;all_goals (with_reducible rfl)));(try simp only [Act.put,List.setIfInBounds_toArray,List.set_cons_zero,List.set_cons_succ]))
 (refine wpAnyE_takeP (i:=10) (v:=?_) rfl (by kernel_rfl) (by kernel_rfl) (by kernel_rfl) (by kernel_rfl) (fun _ _ _ h=>h) (Or.inl ⟨by rfl,?_⟩) ?_;rotate_left 1;(focus (intro w9 _;go_simp;all_goals (with_reducible rfl)));(try simp only [Act.put,List.setIfInBounds_toArray,List.set_cons_zero,List.set_cons_succ]))
 (refine wpAnyE_takeP (i:=11) (v:=?_) rfl (by kernel_rfl) (by kernel_rfl) (by kernel_rfl) (by kernel_rfl) (fun _ _ _ h=>h) (Or.inl ⟨by rfl,?_⟩) ?_;rotate_left 1;(focus (intro w9 _;go_simp;all_goals (with_reducible rfl)));(try simp only [Act.put,List.setIfInBounds_toArray,List.set_cons_zero,List.set_cons_succ]))
 (refine wpAnyE_takeP (i:=12) (v:=?_) rfl (by kernel_rfl) (by kernel_rfl) (by kernel_rfl) (by kernel_rfl) (fun _ _ _ h=>h) (Or.inl ⟨by rfl,?_⟩) ?_;rotate_left 1;(focus (intro w9 _;go_simp;all_goals (with_reducible rfl)));(try simp only [Act.put,List.setIfInBounds_toArray,List.set_cons_zero,List.set_cons_succ]))
 (refine wpAnyE_takeP (i:=14) (v:=?_) rfl (by kernel_rfl) (by kernel_rfl) (by kernel_rfl) (by kernel_rfl) (fun _ _ _ h=>h) (Or.inl ⟨by rfl,?_⟩) ?_;rotate_left 1;(focus (intro w9 _;go_simp;all_goals (with_reducible rfl)));(try simp only [Act.put,List.setIfInBounds_toArray,List.set_cons_zero,List.set_cons_succ]))
 (refine wpAnyE_takeP (i:=17) (v:=?_) rfl (by kernel_rfl) (by kernel_rfl) (by kernel_rfl) (by kernel_rfl) (fun _ _ _ h=>h) (Or.inl ⟨by rfl,?_⟩) ?_;rotate_left 1;(focus (intro w9 _;go_simp;all_goals (with_reducible rfl)));(try simp only [Act.put,List.setIfInBounds_toArray,List.set_cons_zero,List.set_cons_succ]))
 (refine wpAnyE_takeP (i:=18) (v:=?_) rfl (by kernel_rfl) (by kernel_rfl) (by kernel_rfl) (by kernel_rfl) (fun _ _ _ h=>h) (Or.inl ⟨by rfl,?_⟩) ?_;rotate_left 1;(focus (intro w9 _;go_simp;all_goals (with_reducible rfl)));(try simp only [Act.put,List.setIfInBounds_toArray,List.set_cons_zero,List.set_cons_succ]))
 (refine wpAnyE_takeP (i:=19) (v:=?_) rfl (by kernel_rfl) (by kernel_rfl) (by kernel_rfl) (by kernel_rfl) (fun _ _ _ h=>h) (Or.inl ⟨by rfl,?_⟩) ?_;rotate_left 1;(focus (intro w9 _;go_simp;all_goals (with_reducible rfl)));(try simp only [Act.put,List.setIfInBounds_toArray,List.set_cons_zero,List.set_cons_succ]))
 (refine wpAnyE_takeP (i:=21) (v:=?_) rfl (by kernel_rfl) (by kernel_rfl) (by kernel_rfl) (by kernel_rfl) (fun _ _ _ h=>h) (Or.inl ⟨by rfl,?_⟩) ?_;rotate_left 1;(focus (intro w9 _;go_simp;all_goals (with_reducible rfl)));(try simp only [Act.put,List.setIfInBounds_toArray,List.set_cons_zero,List.set_cons_succ]))
 (refine wpAnyE_take2 (i:=3) (v:=?_) rfl (by kernel_rfl) (by kernel_rfl) (by kernel_rfl) (by kernel_rfl) (by kernel_rfl) (fun _ _ _ h=>h) (Or.inl ⟨by rfl,?_⟩) HS ?_;rotate_left 1;(focus (intro w9 hSw;(try dsimp only at hSw);go_simp;all_goals (with_reducible rfl)));(try simp only [Act.put,List.setIfInBounds_toArray,List.set_cons_zero,List.set_cons_succ]))
 (refine wpAnyE_take2 (i:=8) (v:=?_) rfl (by kernel_rfl) (by kernel_rfl) (by kernel_rfl) (by kernel_rfl) (by kernel_rfl) (fun _ _ _ h=>h) (Or.inl ⟨by rfl,?_⟩) HS ?_;rotate_left 1;(focus (intro w9 hSw;(try dsimp only at hSw);go_simp;all_goals (with_reducible rfl)));(try simp only [Act.put,List.setIfInBounds_toArray,List.set_cons_zero,List.set_cons_succ]))
 (refine wpAnyE_take2 (i:=13) (v:=?_) rfl (by kernel_rfl) (by kernel_rfl) (by kernel_rfl) (by kernel_rfl) (by kernel_rfl) (fun _ _ _ h=>h) (Or.inl ⟨by rfl,?_⟩) HS ?_;rotate_left 1;(focus (intro w9 hSw;(try dsimp only at hSw);go_simp;all_goals (with_reducible rfl)));(try simp only [Act.put,List.setIfInBounds_toArray,List.set_cons_zero,List.set_cons_succ]))
 (refine wpAnyE_take2 (i:=15) (v:=?_) rfl (by kernel_rfl) (by kernel_rfl) (by kernel_rfl) (by kernel_rfl) (by kernel_rfl) (fun _ _ _ h=>h) (Or.inl ⟨by rfl,?_⟩) HS ?_;rotate_left 1;(focus (intro w9 hSw;(try dsimp only at hSw);go_simp;all_goals (with_reducible rfl)));(try simp only [Act.put,List.setIfInBounds_toArray,List.set_cons_zero,List.set_cons_succ]))
 (refine wpAnyE_take2 (i:=16) (v:=?_) rfl (by kernel_rfl) (by kernel_rfl) (by kernel_rfl) (by kernel_rfl) (by kernel_rfl) (fun _ _ _ h=>h) (Or.inl ⟨by rfl,?_⟩) HS ?_;rotate_left 1;(focus (intro w9 hSw;(try dsimp only at hSw);go_simp;all_goals (with_reducible rfl)));(try simp only [Act.put,List.setIfInBounds_toArray,List.set_cons_zero,List.set_cons_succ]))
 (refine wpAnyE_take2 (i:=20) (v:=?_) rfl (by kernel_rfl) (by kernel_rfl) (by kernel_rfl) (by kernel_rfl) (by kernel_rfl) (fun _ _ _ h=>h) (Or.inl ⟨by rfl,?_⟩) HS ?_;rotate_left 1;(focus (intro w9 hSw;(try dsimp only at hSw);go_simp;all_goals (with_reducible rfl)));(try simp only [Act.put,List.setIfInBounds_toArray,List.set_cons_zero,List.set_cons_succ]))
 (refine wpAnyE_take2 (i:=22) (v:=?_) rfl (by kernel_rfl) (by kernel_rfl) (by kernel_rfl) (by kernel_rfl) (by kernel_rfl) (fun _ _ _ h=>h) (Or.inl ⟨by rfl,?_⟩) HS ?_;rotate_left 1;(focus (intro w9 hSw;(try dsimp only at hSw);go_simp;all_goals (with_reducible rfl)));(try simp only [Act.put,List.setIfInBounds_toArray,List.set_cons_zero,List.set_cons_succ]))
 (refine wpAnyE_take2 (i:=23) (v:=?_) rfl (by kernel_rfl) (by kernel_rfl) (by kernel_rfl) (by kernel_rfl) (by kernel_rfl) (fun _ _ _ h=>h) (Or.inl ⟨by rfl,?_⟩) HS ?_;rotate_left 1;(focus (intro w9 hSw;(try dsimp only at hSw);go_simp;all_goals (with_reducible rfl)));(try simp only [Act.put,List.setIfInBounds_toArray,List.set_cons_zero,List.set_cons_succ]))
 (refine wpAnyE_take2 (i:=24) (v:=?_) rfl (by kernel_rfl) (by kernel_rfl) (by kernel_rfl) (by kernel_rfl) (by kernel_rfl) (fun _ _ _ h=>h) (Or.inl ⟨by rfl,?_⟩) HS ?_;rotate_left 1;(focus (intro w9 hSw;(try dsimp only at hSw);go_simp;all_goals (with_reducible rfl)));(try simp only [Act.put,List.setIfInBounds_toArray,List.set_cons_zero,List.set_cons_succ]))
 refine wpAnyE_one (i:=25) rfl (by kernel_rfl) ?_
 go_wp2_with fail
 have o1:=(((H.out.own.stored (i*3) (.int .u64 b.key)).1.stored (i*3+1) (.int .u64 b.tie)).1.stored (i*3+2) (.int .i64 b.item)).1
 rw [enV_set es i b (by rw [HL.out.1];exact hi)] at o1
 have hV:Qu (((w.setCell ⟨g,i*3,none⟩ (.int .u64 b.key)).setCell ⟨g,i*3+1,none⟩ (.int .u64 b.tie)).setCell ⟨g,i*3+2,none⟩ (.int .i64 b.item)) s (some ⟨g,0,none⟩) n cc (enV (es.set i b)):=⟨by go_simp,by go_simp,o1⟩
 have hC:Chg (gP (some ⟨g,0,none⟩)) w (((w.setCell ⟨g,i*3,none⟩ (.int .u64 b.key)).setCell ⟨g,i*3+1,none⟩ (.int .u64 b.tie)).setCell ⟨g,i*3+2,none⟩ (.int .i64 b.item)):=(((Chg.refl (X:=gP (some ⟨g,0,none⟩)) (w:=w)).set (p:=⟨g,i*3,none⟩) (.inl rfl) (.int .u64 b.key)).set (p:=⟨g,i*3+1,none⟩) (.inl rfl) (.int .u64 b.tie)).set (p:=⟨g,i*3+2,none⟩) (.inl rfl) (.int .i64 b.item)
 have hsl:(es.set i b).length=n:=by rw [List.length_set];exact HL.out.1
 generalize (((w.setCell ⟨g,i*3,none⟩ (.int .u64 b.key)).setCell ⟨g,i*3+1,none⟩ (.int .u64 b.tie)).setCell ⟨g,i*3+2,none⟩ (.int .i64 b.item))=V at hV hC ⊢
 have HV:=Lib.hid (And.intro hV (And.intro hC hsl))
 obtain ⟨x0,x1,x2⟩:=qu_cells hV (i:=j) (by rw [hsl];exact hj)
 have y0:=hV.own.frozenAt (j*3)
 have y1:=hV.own.frozenAt (j*3+1)
 have y2:=hV.own.frozenAt (j*3+2)
 clear o1 hV hC hsl HS a0 a1 a2 b0 b1 b2 f0 f1 f2 g0 g1 g2 c0 fz
 first|refine ⟨fun e=>(by simp at e),?_⟩|skip
 refine wpAnyE_rest (k:=26) rfl (by kernel_rfl) (fun j hj=>by simp;omega) ?_
 simp only [List.drop_succ_cons,List.drop_zero]
 go_wp2_with fail
 have o2:=(((HV.out.1.own.stored (j*3) (.int .u64 a.key)).1.stored (j*3+1) (.int .u64 a.tie)).1.stored (j*3+2) (.int .i64 a.item)).1
 rw [enV_set (es.set i b) j a (by rw [HV.out.2.2];exact hj)] at o2
 have h2:Qu (((V.setCell ⟨g,j*3,none⟩ (.int .u64 a.key)).setCell ⟨g,j*3+1,none⟩ (.int .u64 a.tie)).setCell ⟨g,j*3+2,none⟩ (.int .i64 a.item)) s (some ⟨g,0,none⟩) n cc (enV (swapE es i j)):=⟨(World.cell?_of_block (a:=⟨s,0,none⟩) (by rw [Below.heap_setCell _ _ _ s (by show s≠g;omega),Below.heap_setCell _ _ _ s (by show s≠g;omega),Below.heap_setCell _ _ _ s (by show s≠g;omega)])).trans HV.out.1.c0,(World.frozen?_of_block (a:=⟨s,0,none⟩) (by rw [Below.heap_setCell _ _ _ s (by show s≠g;omega),Below.heap_setCell _ _ _ s (by show s≠g;omega),Below.heap_setCell _ _ _ s (by show s≠g;omega)])).trans HV.out.1.fz,by unfold swapE;rw [HL.out.2.1,HL.out.2.2];exact o2⟩
 have c2:=((HV.out.2.1.set (p:=⟨g,j*3,none⟩) (.inl rfl) (.int .u64 a.key)).set (p:=⟨g,j*3+1,none⟩) (.inl rfl) (.int .u64 a.tie)).set (p:=⟨g,j*3+2,none⟩) (.inl rfl) (.int .i64 a.item)
 exact bodyPost_end (v := .tuple #[]) (by first|rfl|kernel_rfl) rfl ⟨rfl,h2.drew,c2.trans (Chg.of (X:=gP (some ⟨g,0,none⟩)) (Below.drew (Below.refl _ _))) (fun k hk => .inl hk)⟩
set_option maxHeartbeats 8000000 in
theorem hup_any (s n cc j:Nat) (C:Option Addr) (es:List En) (w:World) (h:Qu w s C n cc (enV es)) (hl:es.length=n) (hn:n≤1000000) (hj:j < n) (hu:UpI es n j):
  Calls Tryz.prog 151 #[.iface 221 (.pointer (some ⟨s,0,none⟩)), .int .i64 j] w fun e w'=>e = .returned (.tuple #[])∧∃ es',Qu w' s C n cc (enV es')∧es'.Perm es∧HeapN es' n∧Chg (gP C) w w':=by
 have H:=Lib.hid (And.intro h hu)
 clear h hu
 go_enter Tryz.func151,Tryz.ntmps151
 go_wp2_with fail
 go_loopw [1] (fun x wr=>∃ (k:Nat),k < n∧x = .int .i64 k∧Hid (∃ es',Qu wr s C n cc (enV es')∧es'.length=n∧es'.Perm es∧UpI es' n k∧Chg (gP C) w wr)) (fun x _=>(intOf x).toNat)
 case atStart=>exact ⟨j,hj,rfl,⟨es,H.out.1,hl,List.Perm.refl _,H.out.2,Chg.refl⟩⟩
 case round=>
  obtain ⟨k,hk,rfl,hrel⟩:=hrel
  obtain ⟨es',hq,hle,hp,hui,hc⟩:=hrel.out
  clear hrel
  by_cases h0:k=0
  ·subst h0
   have HE:=Lib.hid (show ∃ es',Qu wr s C n cc (enV es')∧es'.Perm es∧HeapN es' n∧Chg (gP C) w wr from ⟨es',hq,hp,up_done hui (.inl rfl),hc⟩)
   clear hq hp hui hc
   go_wp2_with fail
   exact bodyPost_end (v := .tuple #[]) (by first|rfl|kernel_rfl) rfl ⟨rfl,HE.out⟩
  ·obtain ⟨m,rfl⟩:∃ m,k=m+1:=⟨k - 1,by omega⟩
   have pl:=tless_any s n cc (m+1) (m / 2) C es' wr hq hle hk (by omega)
   rw [show ((m+1:Nat):Int)=(m:Int)+1 from rfl,show ((m / 2:Nat):Int)=(m:Int) / 2 from rfl] at pl
   have hst:=fun hlt=>up_step (es:=es') (n:=n) (j:=m+1) (by omega) hui (by omega) hk hlt
   have hdn:=fun hle=>up_done (es:=es') (n:=n) (j:=m+1) hui (.inr hle)
   simp only [Nat.add_sub_cancel] at hst hdn
   have HQ:=Lib.hid (And.intro hq (And.intro hp (And.intro hui hc)))
   have hne:((m:Int) / 2 == (m:Int)+1)=false:=by rw [beq_eq_false_iff_ne];omega
   have HST:=Lib.hid (And.intro hst hdn)
   clear hq hp hui hc hst hdn
   obtain ⟨d,hd⟩:∃ d,decide (ltE (atE es' (m+1)) (atE es' (m / 2)))=d:=⟨_,rfl⟩
   rw [hd] at pl
   have PL:=Lib.hid pl
   clear pl
   cases d with
   | false=>
    have HE:=Lib.hid (show ∃ es',Qu wr s C n cc (enV es')∧es'.Perm es∧HeapN es' n∧Chg (gP C) w wr from ⟨es',HQ.out.1,HQ.out.2.1,HST.out.2 (fun e=>by have:=of_decide_eq_false hd;exact this e),HQ.out.2.2.2⟩)
    clear hd
    go_wp2_with fail
    refine PL.out.mono ?_
    rintro e w2 ⟨rfl,hb2⟩
    obtain ⟨es2,q2,p2,h2,c2⟩:=HE.out
    have HE2:=Lib.hid (show ∃ es',Qu w2 s C n cc (enV es')∧es'.Perm es∧HeapN es' n∧Chg (gP C) w w2 from ⟨es2,q2.keep hb2,p2,h2,c2.trans (Chg.of (X:=gP C) hb2) (fun j hj => .inl hj)⟩)
    clear q2 p2 h2 c2 hb2
    go_wp2_with fail
    exact bodyPost_end (v := .tuple #[]) (by first|rfl|kernel_rfl) rfl ⟨rfl,HE2.out⟩
   | true=>
    have HU:=Lib.hid (HST.out.1 (of_decide_eq_true hd))
    have ps:=fun (W:World) (hb:Below wr.heap.size wr W)=>tswap_any s n cc (m / 2) (m+1) C es' W (HQ.out.1.keep hb) hle (by omega) hk hn
    rw [show ((m+1:Nat):Int)=(m:Int)+1 from rfl,show ((m / 2:Nat):Int)=(m:Int) / 2 from rfl] at ps
    have PS:=Lib.hid ps
    clear hd ps
    go_wp2_with fail
    refine PL.out.mono ?_
    rintro e w2 ⟨rfl,hb2⟩
    have HB2:=Lib.hid hb2
    clear hb2
    go_wp2_with fail
    refine (PS.out _ HB2.out).mono ?_
    rintro e w3 ⟨rfl,hq3,hc3⟩
    have HE:=Lib.hid (show ∃ es',Qu w3 s C n cc (enV es')∧es'.length=n∧es'.Perm es∧UpI es' n (m / 2)∧Chg (gP C) w w3 from ⟨_,hq3,by rw [swapE_len];exact hle,(swapE_perm (by omega) (by omega)).trans HQ.out.2.1,HU.out,(HQ.out.2.2.2.trans (Chg.of (X:=gP C) HB2.out) (fun j hj => .inl hj)).trans hc3 (fun j hj => .inl hj)⟩)
    clear hq3 hc3
    go_wp2_with fail
    go_roundw
    case rel=>exact ⟨m / 2,by omega,rfl,HE.out⟩
    case measure=>simp [intOf];omega
theorem atE_ge {es:List En} {i:Nat} (h:es.length≤i):atE es i=en0:=by simp [atE,List.getD,List.getElem?_eq_none h]
set_option maxHeartbeats 16000000 in
theorem hdown_any (s N n cc:Nat) (C:Option Addr) (es:List En) (w:World) (h:Qu w s C N cc (enV es)) (hl:es.length=N) (hN:N≤1000000) (hnN:n≤N) (hu:DnI es n 0):
  Calls Tryz.prog 152 #[.iface 221 (.pointer (some ⟨s,0,none⟩)), .int .i64 0, .int .i64 n] w fun e w'=>(∃ b,e = .returned (.bool b))∧∃ es',Qu w' s C N cc (enV es')∧es'.Perm es∧HeapN es' n∧(∀ k,n≤k→atE es' k=atE es k)∧Chg (gP C) w w':=by
 have H:=Lib.hid (And.intro h hu)
 clear h hu
 go_enter Tryz.func152,Tryz.ntmps152
 go_wp2_with fail
 go_loopw [7] (fun x wr=>∃ (k:Nat),k≤n∧x = .int .i64 k∧Hid (∃ es',Qu wr s C N cc (enV es')∧es'.length=N∧es'.Perm es∧DnI es' n k∧(∀ k,n≤k→atE es' k=atE es k)∧Chg (gP C) w wr)) (fun x _=>n - (intOf x).toNat)
 case atStart=>exact ⟨0,Nat.zero_le _,rfl,⟨es,H.out.1,hl,List.Perm.refl _,H.out.2,fun _ _=>rfl,Chg.refl⟩⟩
 case round=>
  obtain ⟨k,hk,rfl,hrel⟩:=hrel
  obtain ⟨es',hq,hle,hp,hdi,hla,hc⟩:=hrel.out
  have HQ:=Lib.hid (show Qu wr s C N cc (enV es')∧es'.Perm es∧DnI es' n k∧(∀ k,n≤k→atE es' k=atE es k)∧Chg (gP C) w wr from ⟨hq,hp,hdi,hla,hc⟩)
  clear hrel hq hp hdi hla hc
  by_cases h1:2*k+1 < n
  ·have hge:decide ((n:Int)≤2*(k:Int)+1)=false:=decide_eq_false (by omega)
   have hlt0:decide (2*(k:Int)+1 < 0)=false:=decide_eq_false (by omega)
   by_cases h2:2*k+1+1 < n
   ·have hl2:decide (2*(k:Int)+1+1 < (n:Int))=true:=decide_eq_true (by omega)
    have pl:=fun (W:World) (hb:Below wr.heap.size wr W)=>tless_any s N cc (2*k+1+1) (2*k+1) C es' W (HQ.out.1.keep hb) hle (by omega) (by omega)
    rw [show ((2*k+1+1:Nat):Int)=2*(k:Int)+1+1 by omega,show ((2*k+1:Nat):Int)=2*(k:Int)+1 by omega] at pl
    obtain ⟨d,hd⟩:∃ d,decide (ltE (atE es' (2*k+1+1)) (atE es' (2*k+1)))=d:=⟨_,rfl⟩
    rw [hd] at pl
    have PL:=Lib.hid pl
    clear pl
    cases d with
    | true=>
     have HMIN:=Lib.hid (show ∀ c,0 < c→c < n→(c - 1) / 2=k→leE (atE es' (2*k+1+1)) (atE es' c) from fun c hc hcn hck=>by
      rcases (show c=2*k+1∨c=2*k+1+1 by omega) with rfl|rfl
      ·exact leE_of_lt (of_decide_eq_true hd)
      ·exact leE_refl _)
     clear hd
     go_wp2_with fail
     refine (PL.out _ (Below.refl _ _)).mono ?_
     rintro e w2 ⟨rfl,hb2⟩
     obtain ⟨X2,rfl,hl2',hm2'⟩:=later _ hb2 (Nat.le_refl _)
     clear hb2
     have pl2:=fun (W:World) (hb:Below wr.heap.size wr W)=>tless_any s N cc (2*k+1+1) k C es' W (HQ.out.1.keep hb) hle (by omega) (by omega)
     rw [show ((2*k+1+1:Nat):Int)=2*(k:Int)+1+1 by omega] at pl2
     have ps:=fun (W:World) (hb:Below wr.heap.size wr W)=>tswap_any s N cc k (2*k+1+1) C es' W (HQ.out.1.keep hb) hle (by omega) (by omega) hN
     rw [show ((2*k+1+1:Nat):Int)=2*(k:Int)+1+1 by omega] at ps
     obtain ⟨d2,hd2⟩:∃ d,decide (ltE (atE es' (2*k+1+1)) (atE es' k))=d:=⟨_,rfl⟩
     rw [hd2] at pl2
     have PL2:=Lib.hid pl2
     have PS:=Lib.hid ps
     clear pl2 ps
     cases d2 with
     | false=>
      have HE:=Lib.hid (show HeapN es' n from dn_done HQ.out.2.2.1 (fun c hc hcn hck=>leE_trans (fun e=>by have:=of_decide_eq_false hd2;exact this e) (HMIN.out c hc hcn hck)))
      clear hd2
      go_wp2_with fail
      refine (PL2.out _ q9l).mono ?_
      rintro e w3 ⟨rfl,hb3⟩
      have hb3w:Below wr.heap.size wr w3:=Below.trans (show Below wr.heap.size wr _ from q9l) (hb3.mono (by go_size))
      have HE2:=Lib.hid (show ∃ es',Qu w3 s C N cc (enV es')∧es'.Perm es∧HeapN es' n∧(∀ k,n≤k→atE es' k=atE es k)∧Chg (gP C) w w3 from ⟨es',HQ.out.1.keep hb3w,HQ.out.2.1,HE.out,HQ.out.2.2.2.1,HQ.out.2.2.2.2.trans (Chg.of (X:=gP C) hb3w) (fun j hj => .inl hj)⟩)
      clear hb3 hb3w
      go_wp2_with fail
      go_ret
      exact ⟨⟨_,rfl⟩,HE2.out⟩
     | true=>
      have HU:=Lib.hid (dn_step (es:=es') (n:=n) (i:=k) (j:=(2*k+1+1)) (by omega) HQ.out.2.2.1 (by omega) (by omega) (by omega) (of_decide_eq_true hd2) HMIN.out)
      clear hd2
      go_wp2_with fail
      refine (PL2.out _ q9l).mono ?_
      rintro e w3 ⟨rfl,hb3⟩
      have hb3w:Below wr.heap.size wr w3:=Below.trans (show Below wr.heap.size wr _ from q9l) (hb3.mono (by go_size))
      have HB3:=Lib.hid hb3w
      clear hb3 hb3w
      go_wp2_with fail
      refine (PS.out _ HB3.out).mono ?_
      rintro e w4 ⟨rfl,hq4,hc4⟩
      have HE:=Lib.hid (show ∃ es',Qu w4 s C N cc (enV es')∧es'.length=N∧es'.Perm es∧DnI es' n (2*k+1+1)∧(∀ k,n≤k→atE es' k=atE es k)∧Chg (gP C) w w4 from ⟨_,hq4,by rw [swapE_len];exact hle,(swapE_perm (by omega) (by omega)).trans HQ.out.2.1,HU.out,fun c hc=>by
        by_cases hcl:c < N
        ·rw [swapE_at (by omega) (by omega) (by omega),if_neg (by omega),if_neg (by omega)]
         exact HQ.out.2.2.2.1 c hc
        ·rw [atE_ge (by rw [swapE_len];omega),← HQ.out.2.2.2.1 c hc,atE_ge (by omega)],(HQ.out.2.2.2.2.trans (Chg.of (X:=gP C) HB3.out) (fun j hj => .inl hj)).trans hc4 (fun j hj => .inl hj)⟩)
      clear hq4 hc4
      go_wp2_with fail
      go_roundw
      case rel=>exact ⟨(2*k+1+1),by omega,rfl,HE.out⟩
      case measure=>simp [intOf];omega
    | false=>
     have HMIN:=Lib.hid (show ∀ c,0 < c→c < n→(c - 1) / 2=k→leE (atE es' (2*k+1)) (atE es' c) from fun c hc hcn hck=>by
      rcases (show c=2*k+1∨c=2*k+1+1 by omega) with rfl|rfl
      ·exact leE_refl _
      ·exact fun e=>by have:=of_decide_eq_false hd;exact this e)
     clear hd
     go_wp2_with fail
     refine (PL.out _ (Below.refl _ _)).mono ?_
     rintro e w2 ⟨rfl,hb2⟩
     obtain ⟨X2,rfl,hl2',hm2'⟩:=later _ hb2 (Nat.le_refl _)
     clear hb2
     have pl2:=fun (W:World) (hb:Below wr.heap.size wr W)=>tless_any s N cc (2*k+1) k C es' W (HQ.out.1.keep hb) hle (by omega) (by omega)
     rw [show ((2*k+1:Nat):Int)=2*(k:Int)+1 by omega] at pl2
     have ps:=fun (W:World) (hb:Below wr.heap.size wr W)=>tswap_any s N cc k (2*k+1) C es' W (HQ.out.1.keep hb) hle (by omega) (by omega) hN
     rw [show ((2*k+1:Nat):Int)=2*(k:Int)+1 by omega] at ps
     obtain ⟨d2,hd2⟩:∃ d,decide (ltE (atE es' (2*k+1)) (atE es' k))=d:=⟨_,rfl⟩
     rw [hd2] at pl2
     have PL2:=Lib.hid pl2
     have PS:=Lib.hid ps
     clear pl2 ps
     cases d2 with
     | false=>
      have HE:=Lib.hid (show HeapN es' n from dn_done HQ.out.2.2.1 (fun c hc hcn hck=>leE_trans (fun e=>by have:=of_decide_eq_false hd2;exact this e) (HMIN.out c hc hcn hck)))
      clear hd2
      go_wp2_with fail
      refine (PL2.out _ q9l).mono ?_
      rintro e w3 ⟨rfl,hb3⟩
      have hb3w:Below wr.heap.size wr w3:=Below.trans (show Below wr.heap.size wr _ from q9l) (hb3.mono (by go_size))
      have HE2:=Lib.hid (show ∃ es',Qu w3 s C N cc (enV es')∧es'.Perm es∧HeapN es' n∧(∀ k,n≤k→atE es' k=atE es k)∧Chg (gP C) w w3 from ⟨es',HQ.out.1.keep hb3w,HQ.out.2.1,HE.out,HQ.out.2.2.2.1,HQ.out.2.2.2.2.trans (Chg.of (X:=gP C) hb3w) (fun j hj => .inl hj)⟩)
      clear hb3 hb3w
      go_wp2_with fail
      go_ret
      exact ⟨⟨_,rfl⟩,HE2.out⟩
     | true=>
      have HU:=Lib.hid (dn_step (es:=es') (n:=n) (i:=k) (j:=(2*k+1)) (by omega) HQ.out.2.2.1 (by omega) (by omega) (by omega) (of_decide_eq_true hd2) HMIN.out)
      clear hd2
      go_wp2_with fail
      refine (PL2.out _ q9l).mono ?_
      rintro e w3 ⟨rfl,hb3⟩
      have hb3w:Below wr.heap.size wr w3:=Below.trans (show Below wr.heap.size wr _ from q9l) (hb3.mono (by go_size))
      have HB3:=Lib.hid hb3w
      clear hb3 hb3w
      go_wp2_with fail
      refine (PS.out _ HB3.out).mono ?_
      rintro e w4 ⟨rfl,hq4,hc4⟩
      have HE:=Lib.hid (show ∃ es',Qu w4 s C N cc (enV es')∧es'.length=N∧es'.Perm es∧DnI es' n (2*k+1)∧(∀ k,n≤k→atE es' k=atE es k)∧Chg (gP C) w w4 from ⟨_,hq4,by rw [swapE_len];exact hle,(swapE_perm (by omega) (by omega)).trans HQ.out.2.1,HU.out,fun c hc=>by
        by_cases hcl:c < N
        ·rw [swapE_at (by omega) (by omega) (by omega),if_neg (by omega),if_neg (by omega)]
         exact HQ.out.2.2.2.1 c hc
        ·rw [atE_ge (by rw [swapE_len];omega),← HQ.out.2.2.2.1 c hc,atE_ge (by omega)],(HQ.out.2.2.2.2.trans (Chg.of (X:=gP C) HB3.out) (fun j hj => .inl hj)).trans hc4 (fun j hj => .inl hj)⟩)
      clear hq4 hc4
      go_wp2_with fail
      go_roundw
      case rel=>exact ⟨(2*k+1),by omega,rfl,HE.out⟩
      case measure=>simp [intOf];omega
   ·have hl2:decide (2*(k:Int)+1+1 < (n:Int))=false:=decide_eq_false (by omega)
    have HMIN:=Lib.hid (show ∀ c,0 < c→c < n→(c - 1) / 2=k→leE (atE es' (2*k+1)) (atE es' c) from fun c hc hcn hck=>by
     obtain rfl:c=2*k+1:=by omega
     exact leE_refl _)
    have pl2:=fun (W:World) (hb:Below wr.heap.size wr W)=>tless_any s N cc (2*k+1) k C es' W (HQ.out.1.keep hb) hle (by omega) (by omega)
    rw [show ((2*k+1:Nat):Int)=2*(k:Int)+1 by omega] at pl2
    have ps:=fun (W:World) (hb:Below wr.heap.size wr W)=>tswap_any s N cc k (2*k+1) C es' W (HQ.out.1.keep hb) hle (by omega) (by omega) hN
    rw [show ((2*k+1:Nat):Int)=2*(k:Int)+1 by omega] at ps
    obtain ⟨d2,hd2⟩:∃ d,decide (ltE (atE es' (2*k+1)) (atE es' k))=d:=⟨_,rfl⟩
    rw [hd2] at pl2
    have PL2:=Lib.hid pl2
    have PS:=Lib.hid ps
    clear pl2 ps
    cases d2 with
    | false=>
     have HE:=Lib.hid (show HeapN es' n from dn_done HQ.out.2.2.1 (fun c hc hcn hck=>leE_trans (fun e=>by have:=of_decide_eq_false hd2;exact this e) (HMIN.out c hc hcn hck)))
     clear hd2
     go_wp2_with fail
     refine (PL2.out _ q9l).mono ?_
     rintro e w3 ⟨rfl,hb3⟩
     have hb3w:Below wr.heap.size wr w3:=Below.trans (show Below wr.heap.size wr _ from q9l) (hb3.mono (by go_size))
     have HE2:=Lib.hid (show ∃ es',Qu w3 s C N cc (enV es')∧es'.Perm es∧HeapN es' n∧(∀ k,n≤k→atE es' k=atE es k)∧Chg (gP C) w w3 from ⟨es',HQ.out.1.keep hb3w,HQ.out.2.1,HE.out,HQ.out.2.2.2.1,HQ.out.2.2.2.2.trans (Chg.of (X:=gP C) hb3w) (fun j hj => .inl hj)⟩)
     clear hb3 hb3w
     go_wp2_with fail
     go_ret
     exact ⟨⟨_,rfl⟩,HE2.out⟩
    | true=>
     have HU:=Lib.hid (dn_step (es:=es') (n:=n) (i:=k) (j:=(2*k+1)) (by omega) HQ.out.2.2.1 (by omega) (by omega) (by omega) (of_decide_eq_true hd2) HMIN.out)
     clear hd2
     go_wp2_with fail
     refine (PL2.out _ q9l).mono ?_
     rintro e w3 ⟨rfl,hb3⟩
     have hb3w:Below wr.heap.size wr w3:=Below.trans (show Below wr.heap.size wr _ from q9l) (hb3.mono (by go_size))
     have HB3:=Lib.hid hb3w
     clear hb3 hb3w
     go_wp2_with fail
     refine (PS.out _ HB3.out).mono ?_
     rintro e w4 ⟨rfl,hq4,hc4⟩
     have HE:=Lib.hid (show ∃ es',Qu w4 s C N cc (enV es')∧es'.length=N∧es'.Perm es∧DnI es' n (2*k+1)∧(∀ k,n≤k→atE es' k=atE es k)∧Chg (gP C) w w4 from ⟨_,hq4,by rw [swapE_len];exact hle,(swapE_perm (by omega) (by omega)).trans HQ.out.2.1,HU.out,fun c hc=>by
       by_cases hcl:c < N
       ·rw [swapE_at (by omega) (by omega) (by omega),if_neg (by omega),if_neg (by omega)]
        exact HQ.out.2.2.2.1 c hc
       ·rw [atE_ge (by rw [swapE_len];omega),← HQ.out.2.2.2.1 c hc,atE_ge (by omega)],(HQ.out.2.2.2.2.trans (Chg.of (X:=gP C) HB3.out) (fun j hj => .inl hj)).trans hc4 (fun j hj => .inl hj)⟩)
     clear hq4 hc4
     go_wp2_with fail
     go_roundw
     case rel=>exact ⟨(2*k+1),by omega,rfl,HE.out⟩
     case measure=>simp [intOf];omega
  ·have hge:decide ((n:Int)≤2*(k:Int)+1)=true:=decide_eq_true (by omega)
   have HE:=Lib.hid (show ∃ es',Qu wr s C N cc (enV es')∧es'.Perm es∧HeapN es' n∧(∀ k,n≤k→atE es' k=atE es k)∧Chg (gP C) w wr from ⟨es',HQ.out.1,HQ.out.2.1,dn_done HQ.out.2.2.1 (fun c hc hcn hck=>by omega),HQ.out.2.2.2.1,HQ.out.2.2.2.2⟩)
   go_wp2_with fail
   go_ret
   exact ⟨⟨_,rfl⟩,HE.out⟩
end Go.Proofs.YthlijfligikciaaGreat
