/- A part of one proof: SnA MapC SnB. No condition. -/
import Derived.Test.YthlijfligikciaaGreatY10
import Derived.Laws.NewBlocks
import Derived.Test.YthlijfligikciaaGreatY07
import Derived.Test.YthlijfligikciaaGreatY12
namespace Go.Proofs.YthlijfligikciaaGreat
open Go.RowKit Go.Maps
set_option linter.unusedSimpArgs false
set_option linter.unusedVariables false
set_option maxRecDepth 2000
def nodeV (many:Int) (l:Value):List Value:=[.int .i64 0, .int .i64 0, .int .i64 0, .int .i64 (-1), .int .i64 (-1), .int .i64 (-1), .int .i64 (-1), .int .i64 many, .bool false,l]
theorem cells_ten_new (w:World) (a b c d e f g h i j:Value) (t:TypeId):∀ n u,([a,b,c,d,e,f,g,h,i,j]:List Value)[n]? = some u→(w.alloc (.cells #[a,b,c,d,e,f,g,h,i,j] t)).cell? ((⟨w.heap.size,0,none⟩:Addr).add n)=some u:=by
 intro n u hj
 match n,hj with
 | 0,hj|1,hj|2,hj|3,hj|4,hj|5,hj|6,hj|7,hj|8,hj|9,hj=>simp at hj;subst hj;simp [Addr.add]
set_option maxHeartbeats 16000000 in
theorem leaf_first (q:Nat) (w:World) (hq:q < w.heap.size) (q1:w.cell? ⟨q,1,none⟩=some (.slice none 0 0)) (f1:w.frozen? ⟨q,1,none⟩=false) (q2:w.cell? ⟨q,2,none⟩=some (.slice none 0 0)):
  Calls Tryz.prog 54 #[.pointer (some ⟨q,0,none⟩), .agg #[.int .i64 0, .int .i64 0, .int .i64 0]] w fun e w'=>e = .returned (.int .i64 0)∧∃ C cc w7,w'=w7.setCell ⟨q,1,none⟩ (.slice C 1 cc)∧Below w.heap.size w w7∧w'.ownsRow w.heap.size 186 10 (.slice C 1 cc) 1 (nodeV 0 (.slice none 0 0)):=by
 obtain ⟨i0,hi,hz0,hz1,hz2⟩:=info_parts (show (Tryz.prog.info? 186).map (fun i=>(i.zero,i.size,i.bytes))=some (some (.agg #[.int .i64 0, .int .i64 0, .int .i64 0, .int .i64 0, .int .i64 0, .int .i64 0, .int .i64 0, .int .i64 0, .bool false, .slice none 0 0]),10,96) by kernel_rfl)
 go_enter Tryz.func54,Tryz.ntmps54
 go_wp2_with fail
 have HS:(fun w'=>w'.cell? ⟨q,1,none⟩=some (.slice none 0 0)∧w'.cell? ⟨w.heap.size+1,0,none⟩=some (.int .i64 0)∧w'.cell? ⟨w.heap.size+1,1,none⟩=some (.int .i64 0)∧w'.cell? ⟨w.heap.size+1,2,none⟩=some (.int .i64 0)∧w'.cell? ⟨w.heap.size+1,3,none⟩=some (.int .i64 (-1))∧w'.cell? ⟨w.heap.size+1,4,none⟩=some (.int .i64 (-1))∧w'.cell? ⟨w.heap.size+1,5,none⟩=some (.int .i64 (-1))∧w'.cell? ⟨w.heap.size+1,6,none⟩=some (.int .i64 (-1))∧w'.cell? ⟨w.heap.size+1,7,none⟩=some (.int .i64 0)∧w'.cell? ⟨w.heap.size+1,8,none⟩=some (.bool false)∧w'.cell? ⟨w.heap.size+1,9,none⟩=some (.slice none 0 0)) ((w.alloc (.cells #[.int .i64 0, .int .i64 0, .int .i64 0] 83)).alloc (.cells #[.int .i64 0, .int .i64 0, .int .i64 0, .int .i64 (-1), .int .i64 (-1), .int .i64 (-1), .int .i64 (-1), .int .i64 0, .bool false, .slice none 0 0] 186)).drew:=⟨by go_simp,by go_simp,by go_simp,by go_simp,by go_simp,by go_simp,by go_simp,by go_simp,by go_simp,by go_simp,by go_simp⟩
 refine wp_region_early (fun w'=>w'.cell? ⟨q,1,none⟩=some (.slice none 0 0)∧w'.cell? ⟨w.heap.size+1,0,none⟩=some (.int .i64 0)∧w'.cell? ⟨w.heap.size+1,1,none⟩=some (.int .i64 0)∧w'.cell? ⟨w.heap.size+1,2,none⟩=some (.int .i64 0)∧w'.cell? ⟨w.heap.size+1,3,none⟩=some (.int .i64 (-1))∧w'.cell? ⟨w.heap.size+1,4,none⟩=some (.int .i64 (-1))∧w'.cell? ⟨w.heap.size+1,5,none⟩=some (.int .i64 (-1))∧w'.cell? ⟨w.heap.size+1,6,none⟩=some (.int .i64 (-1))∧w'.cell? ⟨w.heap.size+1,7,none⟩=some (.int .i64 0)∧w'.cell? ⟨w.heap.size+1,8,none⟩=some (.bool false)∧w'.cell? ⟨w.heap.size+1,9,none⟩=some (.slice none 0 0)) (fun j=>decide (j < 8)) (by kernel_rfl) HS (fun HS=>?_)
 (refine q9t (i:=0) rfl HS ?_;(try simp only [Act.put,q9x,q9y,q9z]))
 (refine q9t (i:=1) rfl HS ?_;(try simp only [Act.put,q9x,q9y,q9z]))
 (refine q9t (i:=2) rfl HS ?_;(try simp only [Act.put,q9x,q9y,q9z]))
 (refine q9t (i:=3) rfl HS ?_;(try simp only [Act.put,q9x,q9y,q9z]))
 (refine q9t (i:=4) rfl HS ?_;(try simp only [Act.put,q9x,q9y,q9z]))
 (refine q9t (i:=5) rfl HS ?_;(try simp only [Act.put,q9x,q9y,q9z]))
 refine wpAnyE_one (i:=6) rfl (by kernel_rfl) ?_
 go_wp2_with fail
 have HS:(fun w'=>w'.cell? ⟨q,1,none⟩=some (.slice none 0 0)∧w'.cell? ⟨w.heap.size+1,0,none⟩=some (.int .i64 0)∧w'.cell? ⟨w.heap.size+1,1,none⟩=some (.int .i64 0)∧w'.cell? ⟨w.heap.size+1,2,none⟩=some (.int .i64 0)∧w'.cell? ⟨w.heap.size+1,3,none⟩=some (.int .i64 (-1))∧w'.cell? ⟨w.heap.size+1,4,none⟩=some (.int .i64 (-1))∧w'.cell? ⟨w.heap.size+1,5,none⟩=some (.int .i64 (-1))∧w'.cell? ⟨w.heap.size+1,6,none⟩=some (.int .i64 (-1))∧w'.cell? ⟨w.heap.size+1,7,none⟩=some (.int .i64 0)∧w'.cell? ⟨w.heap.size+1,8,none⟩=some (.bool false)∧w'.cell? ⟨w.heap.size+1,9,none⟩=some (.slice none 0 0)) (((w.alloc (.cells #[.int .i64 0, .int .i64 0, .int .i64 0] 83)).alloc (.cells #[.int .i64 0, .int .i64 0, .int .i64 0, .int .i64 (-1), .int .i64 (-1), .int .i64 (-1), .int .i64 (-1), .int .i64 0, .bool false, .slice none 0 0] 186)).drew.alloc (.cells #[.int .i64 0, .int .i64 0, .int .i64 0, .int .i64 (-1), .int .i64 (-1), .int .i64 (-1), .int .i64 (-1), .int .i64 0, .bool false, .slice none 0 0] 186)):=⟨by go_simp,by go_simp,by go_simp,by go_simp,by go_simp,by go_simp,by go_simp,by go_simp,by go_simp,by go_simp,by go_simp⟩
 first|refine ⟨fun _=>HS,?_⟩|skip
 refine wpAnyE_one (i:=7) rfl (by kernel_rfl) ?_
 refine wpList_append_own_at _ rfl _ _ 111 rfl w.heap.size 186 i0 (.agg #[.int .i64 0, .int .i64 0, .int .i64 0, .int .i64 0, .int .i64 0, .int .i64 0, .int .i64 0, .int .i64 0, .bool false, .slice none 0 0]) 10 96 Tryz.underlying111 hi hz0 hz1 hz2 rfl (by decide) (.slice none 0 0) 0 _ (by rfl) (World.ownsRow_nil _ _ _ _) ⟨w.heap.size+2,0,none⟩ 1 1 [.int .i64 0, .int .i64 0, .int .i64 0, .int .i64 (-1), .int .i64 (-1), .int .i64 (-1), .int .i64 (-1), .int .i64 0, .bool false, .slice none 0 0] (by rfl) (by rfl) (by
  have h9:=cells_ten_new ((w.alloc (.cells #[.int .i64 0, .int .i64 0, .int .i64 0] 83)).alloc (.cells #[.int .i64 0, .int .i64 0, .int .i64 0, .int .i64 (-1), .int .i64 (-1), .int .i64 (-1), .int .i64 (-1), .int .i64 0, .bool false, .slice none 0 0] 186)).drew (.int .i64 0) (.int .i64 0) (.int .i64 0) (.int .i64 (-1)) (.int .i64 (-1)) (.int .i64 (-1)) (.int .i64 (-1)) (.int .i64 0) (.bool false) (.slice none 0 0) 186
  have e9:((w.alloc (.cells #[.int .i64 0, .int .i64 0, .int .i64 0] 83)).alloc (.cells #[.int .i64 0, .int .i64 0, .int .i64 0, .int .i64 (-1), .int .i64 (-1), .int .i64 (-1), .int .i64 (-1), .int .i64 0, .bool false, .slice none 0 0] 186)).drew.heap.size=w.heap.size+2:=by simp
  rw [e9] at h9
  exact h9) (by intro u hu;simp at hu;rcases hu with rfl|rfl|rfl|rfl|rfl <;> rfl) (by unfold maxLen;omega) (by omega) (by simp;omega) ?_
 intro v3 w3 hown3 hgrow3 _ _
 obtain ⟨A3,k3,rfl⟩:=own_formN hown3
 have hb3:Below w.heap.size w w3:=Below.grown (show Below w.heap.size w (((w.alloc (.cells #[.int .i64 0, .int .i64 0, .int .i64 0] 83)).alloc (.cells #[.int .i64 0, .int .i64 0, .int .i64 0, .int .i64 (-1), .int .i64 (-1), .int .i64 (-1), .int .i64 (-1), .int .i64 0, .bool false, .slice none 0 0] 186)).drew.alloc (.cells #[.int .i64 0, .int .i64 0, .int .i64 0, .int .i64 (-1), .int .i64 (-1), .int .i64 (-1), .int .i64 (-1), .int .i64 0, .bool false, .slice none 0 0] 186)) from ((((Below.refl w.heap.size w).alloc (Nat.le_refl _) _).alloc (by simp) _).drew).alloc (by simp;omega) _) hgrow3 (by simp;omega) (fun k hk=>by cases hk)
 have HO3:=Lib.hid hown3
 have c3:w3.cell? ⟨q,1,none⟩=some (.slice none 0 0):=(hb3.cell (p:=⟨q,1,none⟩) hq).trans q1
 have z3:w3.frozen? ⟨q,1,none⟩=false:=(hb3.frozen (p:=⟨q,1,none⟩) hq).trans f1
 have hs3:=hgrow3.size
 simp only [World.size_alloc,World.size_drew] at hs3
 have n3:∀ i,w3.cell? ⟨w.heap.size+1,i,none⟩=(((w.alloc (.cells #[.int .i64 0, .int .i64 0, .int .i64 0] 83)).alloc (.cells #[.int .i64 0, .int .i64 0, .int .i64 0, .int .i64 (-1), .int .i64 (-1), .int .i64 (-1), .int .i64 (-1), .int .i64 0, .bool false, .slice none 0 0] 186)).drew.alloc (.cells #[.int .i64 0, .int .i64 0, .int .i64 0, .int .i64 (-1), .int .i64 (-1), .int .i64 (-1), .int .i64 (-1), .int .i64 0, .bool false, .slice none 0 0] 186)).cell? ⟨w.heap.size+1,i,none⟩:=fun i=>hgrow3.cell_far ⟨w.heap.size+1,i,none⟩ (by simp) (fun e=>by cases e)
 have HS3:(fun w'=>w'.cell? ⟨q,1,none⟩=some (.slice none 0 0)∧w'.cell? ⟨w.heap.size+1,0,none⟩=some (.int .i64 0)∧w'.cell? ⟨w.heap.size+1,1,none⟩=some (.int .i64 0)∧w'.cell? ⟨w.heap.size+1,2,none⟩=some (.int .i64 0)∧w'.cell? ⟨w.heap.size+1,3,none⟩=some (.int .i64 (-1))∧w'.cell? ⟨w.heap.size+1,4,none⟩=some (.int .i64 (-1))∧w'.cell? ⟨w.heap.size+1,5,none⟩=some (.int .i64 (-1))∧w'.cell? ⟨w.heap.size+1,6,none⟩=some (.int .i64 (-1))∧w'.cell? ⟨w.heap.size+1,7,none⟩=some (.int .i64 0)∧w'.cell? ⟨w.heap.size+1,8,none⟩=some (.bool false)∧w'.cell? ⟨w.heap.size+1,9,none⟩=some (.slice none 0 0)) w3:=⟨c3,(n3 _).trans (by go_simp),(n3 _).trans (by go_simp),(n3 _).trans (by go_simp),(n3 _).trans (by go_simp),(n3 _).trans (by go_simp),(n3 _).trans (by go_simp),(n3 _).trans (by go_simp),(n3 _).trans (by go_simp),(n3 _).trans (by go_simp),(n3 _).trans (by go_simp)⟩
 refine ⟨fun _=>HS3,?_⟩
 have HE:=Lib.hid (And.intro hb3 HO3.out)
 clear hown3 hgrow3 n3 HS HS3
 refine wpAnyE_rest (k:=8) rfl (by kernel_rfl) (fun j hj=>by simp;omega) ?_
 simp only [List.drop_succ_cons,List.drop_zero]
 go_wp2_with fail
 go_ret
 exact ⟨rfl,A3,k3,w3,rfl,HE.out.1,own_set HE.out.2 hq _⟩
structure Pt1 (w:World) (s q:Nat) (C:Option Addr) (cc many:Nat) (l:Value):Prop where
 lt:q < w.heap.size
 ls:s < q
 c0:w.cell? ⟨q,0,none⟩=some (.int .i64 3)
 c1:w.cell? ⟨q,1,none⟩=some (.slice C 1 cc)
 c2:w.cell? ⟨q,2,none⟩=some (.slice none 0 0)
 c3:w.cell? ⟨q,3,none⟩=some (.map (some s))
 own:w.ownsRow (q+1) 186 10 (.slice C 1 cc) 1 (nodeV many l)
set_option maxHeartbeats 8000000 in
theorem ptNew_any (w:World):Calls Tryz.prog 18 #[.int .i64 3] w fun e w'=>∃ C cc,e = .returned (.tuple #[.pointer (some ⟨w.heap.size+1,0,none⟩), .int .i64 0])∧Pt1 w' w.heap.size (w.heap.size+1) C cc 0 (.slice none 0 0)∧w'.heap[w.heap.size]? = some (.map #[] 0)∧Below w.heap.size w w':=by
 have hmm:=@run_makeMap Tryz.prog
 have P:=Lib.hid (fun (Y:World) (q:Nat) (hq:q < Y.heap.size) (q1:Y.cell? ⟨q,1,none⟩=some (.slice none 0 0)) (f1:Y.frozen? ⟨q,1,none⟩=false) (q2:Y.cell? ⟨q,2,none⟩=some (.slice none 0 0))=>leaf_first q Y hq q1 f1 q2)
 go_enter Tryz.func18,Tryz.ntmps18
 go_wp2_with fail
 go_at_call 54
 refine (P.out _ (w.heap.size+1) (by simp) (by go_simp) (by go_simp) (by go_simp)).mono ?_
 rintro e w' ⟨rfl,C,cc,w7,rfl,hb,hown⟩
 obtain ⟨X7,rfl,hl7,hm7⟩:=later _ hb (Nat.le_refl _)
 have hz7:w.heap.size+2≤X7.w.heap.size:=Nat.le_trans (by simp) hl7
 have hmap:(X7.w.setCell ⟨w.heap.size+1,1,none⟩ (.slice C 1 cc)).heap[w.heap.size]? = some (.map #[] 0):=by
  rw [Below.heap_setCell _ _ _ _ (by show w.heap.size≠w.heap.size+1;omega),hb.block _ (by simp;omega)]
  have h9:Below (w.alloc (.map #[] 0)).heap.size (w.alloc (.map #[] 0)) ((w.alloc (.map #[] 0)).alloc (.cells #[.int .i64 3, .slice none 0 0, .slice none 0 0, .map (some w.heap.size)] 114)):=(Below.refl _ _).alloc (Nat.le_refl _) _
  rw [h9.block _ (by simp)]
  exact heap_alloc_new w _
 have hbw:Below w.heap.size w (X7.w.setCell ⟨w.heap.size+1,1,none⟩ (.slice C 1 cc)):=(show Below w.heap.size w X7.w from q9l).setCell (by show w.heap.size≤w.heap.size+1;omega) _
 have HE:=Lib.hid (And.intro hown (And.intro hmap hbw))
 clear hb hown hmap hbw
 go_wp2_with fail
 refine bodyPost_ret (by simp only [results,Tryz.results18];go_simp;all_goals (first|rfl|simp [sel])) rfl ⟨C,cc,rfl,⟨by rw [World.size_setCell];omega,by omega,by go_simp,by go_simp,by go_simp,by go_simp,own_base HE.out.1 (by simp)⟩,HE.out.2.1,HE.out.2.2⟩
set_option maxHeartbeats 4000000 in
theorem fresh_any (a b c:Int) (w:World):Calls Tryz.prog 57 #[.agg #[.int .i64 a, .int .i64 b, .int .i64 c]] w fun e w'=>(∃ q,e = .returned (.pointer (some ⟨q,0,none⟩))∧w.heap.size≤q)∧Below w.heap.size w w':=by
 have hmm:=@run_makeMap Tryz.prog
 go_enter Tryz.func57,Tryz.ntmps57
 go_wp2_with fail
 go_ret
 exact ⟨⟨_,rfl,by omega⟩,q9o⟩
set_option maxHeartbeats 4000000 in
theorem cifNew_any (w:World):Calls Tryz.prog 20 #[] w fun e w'=>(∃ q,e = .returned (.pointer (some ⟨q,0,none⟩))∧w.heap.size≤q)∧Below w.heap.size w w':=by
 have hmm:=@run_makeMap Tryz.prog
 have P:=Lib.hid (fun (Y:World)=>fresh_any 0 0 0 Y)
 go_enter Tryz.func20,Tryz.ntmps20
 go_wp2_with fail
 go_at_call 57
 refine (P.out _).mono ?_
 rintro e w' ⟨⟨q,rfl,hq⟩,hb⟩
 obtain ⟨X1,rfl,hl1,hm1⟩:=later _ hb (Nat.le_refl _)
 go_wp2_with fail
 go_ret
 exact ⟨⟨_,rfl,by omega⟩,q9l⟩
theorem i_keyed:Keyed Tryz.prog 3:=int_keyed Tryz.underlying3
theorem ikey_mk {k:Int} (h:wf64 k):keyOf Tryz.prog 3 (.int .i64 k)=some (.int .i64 k):=keyOf_int_mk Tryz.underlying3 (wf64_lit h)
def M1 (w:World) (b n:Nat) (S:Int→Option Value):Prop:=
 ∃ D:DataW Value,w.ownsMap Tryz.prog 3 heldV b n D∧IsMap D∧∀ k,wf64 k→has D (.int .i64 k)=(S k).isSome∧∀ v,S k=some v→∀ z,D.atKey (.int .i64 k) z = .held v
section
variable {w w':World} {b n:Nat} {S:Int→Option Value}
theorem M1.lt (h:M1 w b n S):b < w.heap.size:=by
 obtain ⟨D,h,_⟩:=h
 exact h.lt
theorem M1.same (h:M1 w b n S) (e:w'.heap[b]? = w.heap[b]?):M1 w' b n S:=by
 obtain ⟨D,⟨es,cl,h,r⟩,h2⟩:=h
 exact ⟨D,⟨es,cl,e.trans h,r⟩,h2⟩
theorem m1_of (h:w.heap[b]? = some (.map #[] 0)):M1 w b 0 (fun _=>none):=by
 obtain ⟨es,cl,h9,r⟩:=World.ownsMap_made w Tryz.prog 3 heldV
 rw [heap_alloc_new] at h9
 injection h9 with h9
 injection h9 with e1 e2
 subst e1 e2
 exact ⟨_,⟨_,_,h,r⟩,isMap_empty,fun k _=>⟨rfl,fun v h=>by cases h⟩⟩
theorem m1_made (w:World):M1 (w.alloc (.map #[] 0)) w.heap.size 0 (fun _=>none):=m1_of (heap_alloc_new _ _)
theorem M1.lookOk (h:M1 w b n S) {mt et:TypeId} {Z:Value} (hU:Tryz.prog.underlying mt=some (.map 3 et)) (hz:(zeroValue et).run Tryz.prog w = .ok Z w) {k:Int} (hk:wf64 k):(Instr.lookup mt (.map (some b)) (.int .i64 k) true).run Tryz.prog w = .ok (.tuple #[(S k).getD Z, .bool (S k).isSome]) w:=by
 obtain ⟨D,h,hm,hat⟩:=h
 obtain ⟨v,ps,hrun,hv⟩:=h.look_ok i_keyed hU hz (zd := .held Z) (zp:=[]) rfl (ikey_mk hk)
 obtain ⟨h1,h2⟩:=hat k hk
 rw [hrun,h1]
 cases hS:S k with
 | none=>
  rw [hS] at h1
  rw [atKey_of_not_has (by rw [h1];rfl)] at hv
  rw [heldV_inv hv]
  rfl
 | some u=>
  rw [h2 u hS] at hv
  rw [heldV_inv hv]
  rfl
theorem M1.look (h:M1 w b n S) {mt et:TypeId} {Z:Value} (hU:Tryz.prog.underlying mt=some (.map 3 et)) (hz:(zeroValue et).run Tryz.prog w = .ok Z w) {k:Int} (hk:wf64 k):(Instr.lookup mt (.map (some b)) (.int .i64 k) false).run Tryz.prog w = .ok ((S k).getD Z) w:=by
 obtain ⟨D,h,hm,hat⟩:=h
 obtain ⟨v,ps,hrun,hv⟩:=h.lookup i_keyed hU hz (zd := .held Z) (zp:=[]) rfl (ikey_mk hk)
 obtain ⟨h1,h2⟩:=hat k hk
 rw [hrun]
 cases hS:S k with
 | none=>
  rw [hS] at h1
  rw [atKey_of_not_has (by rw [h1];rfl)] at hv
  rw [heldV_inv hv]
  rfl
 | some u=>
  rw [h2 u hS] at hv
  rw [heldV_inv hv]
  rfl
theorem M1.put (h:M1 w b n S) (hn:n < 9223372036854775807) {mt et:TypeId} (hU:Tryz.prog.underlying mt=some (.map 3 et)) {k:Int} (hk:wf64 k) (v:Value):
  ∃ w',(Instr.mapUpdate mt (.map (some b)) (.int .i64 k) v).run Tryz.prog w = .ok () w'∧M1 w' b (n+1) (fun x=>if x=k then some v else S x)∧w.grownBy w' (some b):=by
 obtain ⟨D,h,hm,hat⟩:=h
 obtain ⟨w',hrun,h1,h2⟩:=h.update i_keyed hU (by unfold maxLen;omega) (ikey_mk hk) (val:=v) (d := .held v) (ps:=[]) rfl
 refine ⟨w',hrun,⟨_,h1,hm.put _ _,fun x hx=>?_⟩,h2⟩
 by_cases e:x=k
 ·subst e
  simp only [if_true]
  refine ⟨has_put_same hm (i_keyed.key (ikey_mk hk)) _,fun u hu zd=>?_⟩
  injection hu with hu
  subst hu
  exact atKey_put_same hm (i_keyed.key (ikey_mk hk)) _ _
 ·have hne:(.int .i64 x:Lit) ≠ .int .i64 k:=fun he=>e (by injection he)
  simp only [e,if_false]
  obtain ⟨h3,h4⟩:=hat x hx
  exact ⟨(has_put_other hne _).trans h3,fun u hu zd=>by rw [atKey_put_other hne];exact h4 u hu zd⟩
end
theorem own_chg {X:Nat→Prop} {w w':World} {base n size:Nat} {e:TypeId} {v:Value} {xs:List Value} (h:w.ownsRow base e size v n xs) (hc:Chg X w w') (h2:∀ k,v.ownBlock=some k→¬ X k):w'.ownsRow base e size v n xs:=by
 refine ⟨h.1,?_⟩
 rcases h.2 with hn|⟨g,cap,cur,hv,hbase,hg,rest⟩
 ·exact .inl hn
 ·refine .inr ⟨g,cap,cur,hv,hbase,(hc.block g (Array.getElem?_eq_some_iff.1 hg).1 (h2 g ?_)).trans hg,rest⟩
  subst hv
  rfl
theorem M1.chg {X:Nat→Prop} {w w':World} {b n:Nat} {S:Int→Option Value} (h:M1 w b n S) (hc:Chg X w w') (h2:¬ X b):M1 w' b n S:=h.same (hc.block b h.lt h2)
theorem Pt1.chg {X:Nat→Prop} {w w':World} {s q cc many:Nat} {C:Option Addr} {l:Value} (h:Pt1 w s q C cc many l) (hc:Chg X w w') (h1:¬ X q) (h2:∀ k,gP C k→¬ X k):Pt1 w' s q C cc many l:=
 ⟨Nat.lt_of_lt_of_le h.lt hc.size,h.ls,(hc.cell (p:=⟨q,0,none⟩) h.lt h1).trans h.c0,(hc.cell (p:=⟨q,1,none⟩) h.lt h1).trans h.c1,(hc.cell (p:=⟨q,2,none⟩) h.lt h1).trans h.c2,(hc.cell (p:=⟨q,3,none⟩) h.lt h1).trans h.c3,own_chg h.own hc (fun k hk=>h2 k (by rw [gOf_own] at hk;exact hk))⟩
theorem Pt1.keep {w w':World} {s q cc many:Nat} {C:Option Addr} {l:Value} (h:Pt1 w s q C cc many l) (hb:Below w.heap.size w w'):Pt1 w' s q C cc many l:=h.chg (X:=fun _=>False) (Chg.of hb) (fun e=>e) (fun _ _ e=>e)
theorem Pt1.far {w:World} {s q cc many:Nat} {C:Option Addr} {l:Value} (h:Pt1 w s q C cc many l):∀ k,gP C k→q < k∧k < w.heap.size:=fun k hk=>by
 have h1:=h.own.lt k (by rw [gOf_own];exact hk)
 exact ⟨by omega,h1.2⟩
theorem pmade_any (q n cc:Nat) (C:Option Addr) (w:World) (h:w.cell? ⟨q,1,none⟩=some (.slice C n cc)) (hn:0 < n):Calls Tryz.prog 58 #[.pointer (some ⟨q,0,none⟩)] w fun e w'=>e = .returned (.bool true)∧Below w.heap.size w w':=by
 have hd:decide ((0:Int) < (n:Int))=true:=decide_eq_true (by omega)
 go_enter Tryz.func58,Tryz.ntmps58
 go_wp2
 go_ret
 exact ⟨rfl,q9o⟩
set_option maxHeartbeats 16000000 in
theorem pput_first (s q cc:Nat) (C:Option Addr) (id x y l:Int) (w:World) (h:Pt1 w s q C cc 0 (.slice none 0 0)):
  Calls Tryz.prog 59 #[.pointer (some ⟨q,0,none⟩), .int .i64 0, .agg #[.int .i64 id, .int .i64 x, .int .i64 y, .int .i64 l]] w fun e w'=>e = .returned (.tuple #[])∧∃ D cd,Pt1 w' s q C cc 1 (.slice D 1 cd)∧w'.ownsRow w.heap.size 32 4 (.slice D 1 cd) 1 [.int .i64 id, .int .i64 x, .int .i64 y, .int .i64 l]∧Chg (gP C) w w':=by
 obtain ⟨i0,hi,hz0,hz1,hz2⟩:=info_parts (show (Tryz.prog.info? 32).map (fun i=>(i.zero,i.size,i.bytes))=some (some (.agg #[.int .i64 0, .int .i64 0, .int .i64 0, .int .i64 0]),4,32) by kernel_rfl)
 have H:=Lib.hid h
 obtain ⟨hlt,hls,c0,c1,c2,c3,hown⟩:=h
 obtain ⟨g,cap,hv,hlo,hgl⟩:=hown.form (by omega)
 have hC:C=some ⟨g,0,none⟩:=by injection hv
 subst hC
 unfold nodeV at hown
 have d0:=hown.cells (g:=g) rfl 0 _ rfl
 have d7:=hown.cells (g:=g) rfl 7 _ rfl
 have d8:=hown.cells (g:=g) rfl 8 _ rfl
 have d9:=hown.cells (g:=g) rfl 9 _ rfl
 rw [Addr.add_lit] at d0 d7 d8 d9
 simp only [Nat.zero_add] at d0 d7 d8 d9
 have f7:=hown.frozenAt 7
 have f9:=hown.frozenAt 9
 clear hown hv
 go_enter Tryz.func59,Tryz.ntmps59
 go_wp2_with fail
 go_loopw [1] (fun a wr=>a = .int .i64 0∧wr=w.alloc (.cells #[.int .i64 id, .int .i64 x, .int .i64 y, .int .i64 l] 32)) (fun _ _=>0)
 case atStart=>exact ⟨rfl,rfl⟩
 case round=>
  obtain ⟨rfl,rfl⟩:=hrel
  go_wp2_with fail
  have hbV:Below w.heap.size (w.setCell ⟨g,7,none⟩ (.int .i64 1)) ((w.setCell ⟨g,7,none⟩ (.int .i64 1)).alloc (.cells #[.int .i64 id, .int .i64 x, .int .i64 y, .int .i64 l] 32)).drew:=((Below.refl w.heap.size _).alloc (by rw [World.size_setCell];exact Nat.le_refl _) _).drew
  have HS:(fun w'=>w'.cell? ⟨g,9,none⟩=some (.slice none 0 0)∧w'.cell? ⟨w.heap.size,0,none⟩=some (.int .i64 id)∧w'.cell? ⟨w.heap.size,1,none⟩=some (.int .i64 x)∧w'.cell? ⟨w.heap.size,2,none⟩=some (.int .i64 y)∧w'.cell? ⟨w.heap.size,3,none⟩=some (.int .i64 l)) ((w.setCell ⟨g,7,none⟩ (.int .i64 1)).alloc (.cells #[.int .i64 id, .int .i64 x, .int .i64 y, .int .i64 l] 32)).drew:=⟨by go_simp,by go_simp,by go_simp,by go_simp,by go_simp⟩
  refine wp_region_early (fun w'=>w'.cell? ⟨g,9,none⟩=some (.slice none 0 0)∧w'.cell? ⟨w.heap.size,0,none⟩=some (.int .i64 id)∧w'.cell? ⟨w.heap.size,1,none⟩=some (.int .i64 x)∧w'.cell? ⟨w.heap.size,2,none⟩=some (.int .i64 y)∧w'.cell? ⟨w.heap.size,3,none⟩=some (.int .i64 l)) (fun j=>decide (j < 8)) (by kernel_rfl) HS (fun HS=>?_)
  (refine q9t (i:=0) rfl HS ?_;(try simp only [Act.put,q9x,q9y,q9z]))
  (refine q9t (i:=1) rfl HS ?_;(try simp only [Act.put,q9x,q9y,q9z]))
  (refine q9t (i:=2) rfl HS ?_;(try simp only [Act.put,q9x,q9y,q9z]))
  (refine q9t (i:=3) rfl HS ?_;(try simp only [Act.put,q9x,q9y,q9z]))
  (refine q9t (i:=4) rfl HS ?_;(try simp only [Act.put,q9x,q9y,q9z]))
  (refine q9t (i:=5) rfl HS ?_;(try simp only [Act.put,q9x,q9y,q9z]))
  refine wpAnyE_one (i:=6) rfl (by kernel_rfl) ?_
  go_wp2_with fail
  have HS:(fun w'=>w'.cell? ⟨g,9,none⟩=some (.slice none 0 0)∧w'.cell? ⟨w.heap.size,0,none⟩=some (.int .i64 id)∧w'.cell? ⟨w.heap.size,1,none⟩=some (.int .i64 x)∧w'.cell? ⟨w.heap.size,2,none⟩=some (.int .i64 y)∧w'.cell? ⟨w.heap.size,3,none⟩=some (.int .i64 l)) (((w.setCell ⟨g,7,none⟩ (.int .i64 1)).alloc (.cells #[.int .i64 id, .int .i64 x, .int .i64 y, .int .i64 l] 32)).drew.alloc (.cells #[.int .i64 id, .int .i64 x, .int .i64 y, .int .i64 l] 32)):=⟨by go_simp,by go_simp,by go_simp,by go_simp,by go_simp⟩
  first|refine ⟨fun _=>HS,?_⟩|skip
  refine wpAnyE_one (i:=7) rfl (by kernel_rfl) ?_
  have hb2:Below w.heap.size (w.setCell ⟨g,7,none⟩ (.int .i64 1)) (((w.setCell ⟨g,7,none⟩ (.int .i64 1)).alloc (.cells #[.int .i64 id, .int .i64 x, .int .i64 y, .int .i64 l] 32)).drew.alloc (.cells #[.int .i64 id, .int .i64 x, .int .i64 y, .int .i64 l] 32)):=hbV.alloc (by simp) _
  refine wpList_append_own_at _ rfl _ _ 53 rfl w.heap.size 32 i0 (.agg #[.int .i64 0, .int .i64 0, .int .i64 0, .int .i64 0]) 4 32 Tryz.underlying53 hi hz0 hz1 hz2 rfl (by decide) (.slice none 0 0) 0 _ (by rfl) (World.ownsRow_nil _ _ _ _) ⟨w.heap.size+1,0,none⟩ 1 1 [.int .i64 id, .int .i64 x, .int .i64 y, .int .i64 l] (by rfl) (by rfl) (by
   have h9:=cells_four_new ((w.setCell ⟨g,7,none⟩ (.int .i64 1)).alloc (.cells #[.int .i64 id, .int .i64 x, .int .i64 y, .int .i64 l] 32)).drew (.int .i64 id) (.int .i64 x) (.int .i64 y) (.int .i64 l) 32
   have e9:((w.setCell ⟨g,7,none⟩ (.int .i64 1)).alloc (.cells #[.int .i64 id, .int .i64 x, .int .i64 y, .int .i64 l] 32)).drew.heap.size=w.heap.size+1:=by simp
   rw [e9] at h9
   exact h9) (by intro u hu;simp at hu;rcases hu with rfl|rfl|rfl|rfl <;> rfl) (by unfold maxLen;omega) (by omega) (by simp;omega) ?_
  intro v3 w3 hown3 hgrow3 _ hat3
  obtain ⟨A3,k3,rfl⟩:=own_formN hown3
  have hb3:Below w.heap.size (w.setCell ⟨g,7,none⟩ (.int .i64 1)) w3:=Below.grown hb2 hgrow3 (by simp;omega) (fun k hk=>by cases hk)
  have q3:∀ p:Addr,p.block < w.heap.size+2→w3.cell? p=(((w.setCell ⟨g,7,none⟩ (.int .i64 1)).alloc (.cells #[.int .i64 id, .int .i64 x, .int .i64 y, .int .i64 l] 32)).drew.alloc (.cells #[.int .i64 id, .int .i64 x, .int .i64 y, .int .i64 l] 32)).cell? p:=fun p hp=>hgrow3.cell_far p (by simp;omega) (fun e=>by cases e)
  have HS3:(fun w'=>w'.cell? ⟨g,9,none⟩=some (.slice none 0 0)∧w'.cell? ⟨w.heap.size,0,none⟩=some (.int .i64 id)∧w'.cell? ⟨w.heap.size,1,none⟩=some (.int .i64 x)∧w'.cell? ⟨w.heap.size,2,none⟩=some (.int .i64 y)∧w'.cell? ⟨w.heap.size,3,none⟩=some (.int .i64 l)) w3:=⟨(q3 ⟨g,9,none⟩ (by show g < _;omega)).trans (by go_simp),(q3 ⟨w.heap.size,0,none⟩ (by show w.heap.size < _;omega)).trans (by go_simp),(q3 ⟨w.heap.size,1,none⟩ (by show w.heap.size < _;omega)).trans (by go_simp),(q3 ⟨w.heap.size,2,none⟩ (by show w.heap.size < _;omega)).trans (by go_simp),(q3 ⟨w.heap.size,3,none⟩ (by show w.heap.size < _;omega)).trans (by go_simp)⟩
  refine ⟨fun _=>HS3,?_⟩
  have z9:w3.frozen? ⟨g,9,none⟩=false:=(hb3.frozen (p:=⟨g,9,none⟩) hgl).trans (by go_simp)
  have o1:=(H.out.own.stored 7 (.int .i64 1)).1
  have o2:=(show (w.setCell ⟨g,7,none⟩ (.int .i64 1)).ownsRow (q+1) 186 10 (.slice (some ⟨g,0,none⟩) 1 cc) 1 (nodeV 1 (.slice none 0 0)) by
   exact o1)
  have o3:=(own_keep o2 (by rw [World.size_setCell];exact hb3)).stored 9 (.slice A3 1 k3)
  have o4:=(show (w3.setCell ⟨g,9,none⟩ (.slice A3 1 k3)).ownsRow (q+1) 186 10 (.slice (some ⟨g,0,none⟩) 1 cc) 1 (nodeV 1 (.slice A3 1 k3)) by
   exact o3.1)
  have hc4:Chg (gP (some ⟨g,0,none⟩)) w (w3.setCell ⟨g,9,none⟩ (.slice A3 1 k3)):=(((Chg.refl (X:=gP (some ⟨g,0,none⟩))).set (p:=⟨g,7,none⟩) (.inl rfl) (.int .i64 1)).trans (Chg.of (X:=gP (some ⟨g,0,none⟩)) (by rw [World.size_setCell];exact hb3)) (fun k hk => .inl hk)).set (p:=⟨g,9,none⟩) (.inl rfl) (.slice A3 1 k3)
  have r4:=own_set hown3 (p:=⟨g,9,none⟩) hgl (.slice A3 1 k3)
  have HE:=Lib.hid (And.intro o4 (And.intro hc4 r4))
  have hs3:=hgrow3.size
  simp only [World.size_alloc,World.size_drew,World.size_setCell] at hs3
  have qq0:w3.cell? ⟨q,0,none⟩=some (.int .i64 3):=(q3 ⟨q,0,none⟩ (by show q < _;omega)).trans (by go_simp)
  have hgq:g≠q:=by omega
  have x3:w3.cell? ⟨g,9,none⟩=some (.slice none 0 0):=HS3.1
  clear hown3 hgrow3 q3 HS HS3 hat3 hb2 hb3 hbV o1 o2 o3 o4 hc4 r4
  refine wpAnyE_rest (k:=8) rfl (by kernel_rfl) (fun j hj=>by simp;omega) ?_
  simp only [List.drop_succ_cons,List.drop_zero]
  go_wp2_with fail
  have x9:(w3.setCell ⟨g,9,none⟩ (.slice A3 1 k3)).cell? ⟨g,9,none⟩=some (.slice A3 1 k3):=by go_simp
  have x0:(w3.setCell ⟨g,9,none⟩ (.slice A3 1 k3)).cell? ⟨q,0,none⟩=some (.int .i64 3):=by go_simp
  have hz4:w.heap.size+2≤(w3.setCell ⟨g,9,none⟩ (.slice A3 1 k3)).heap.size:=by rw [World.size_setCell];exact hs3
  generalize (w3.setCell ⟨g,9,none⟩ (.slice A3 1 k3))=w5 at HE x9 x0 hz4 ⊢
  clear z9 qq0 x3
  have e1:w5.cell? ⟨q,1,none⟩=some (.slice (some ⟨g,0,none⟩) 1 cc):=(HE.out.2.1.cell (p:=⟨q,1,none⟩) hlt (fun e=>by unfold gP gOf at e;injection e with e;exact hgq e)).trans c1
  have e2:w5.cell? ⟨q,2,none⟩=some (.slice none 0 0):=(HE.out.2.1.cell (p:=⟨q,2,none⟩) hlt (fun e=>by unfold gP gOf at e;injection e with e;exact hgq e)).trans c2
  have e3:w5.cell? ⟨q,3,none⟩=some (.map (some s)):=(HE.out.2.1.cell (p:=⟨q,3,none⟩) hlt (fun e=>by unfold gP gOf at e;injection e with e;exact hgq e)).trans c3
  have HP:=Lib.hid (show Pt1 w5 s q (some ⟨g,0,none⟩) cc 1 (.slice A3 1 k3) from ⟨by omega,hls,x0,e1,e2,e3,HE.out.1⟩)
  clear e1 e2 e3
  (refine wp_region_later (w5.heap.size) (by kernel_rfl) (by kernel_rfl) (by go_size) ?_;(repeat (go_big_quiet_step (fail)));refine wpQuiet_nil ?_;intro Xq hlXq hmXq)
  have HQ:=Lib.hid (show Below w5.heap.size w5 Xq.w from q9l)
  go_wp2_with fail
  exact bodyPost_end (v := .tuple #[]) (by first|rfl|kernel_rfl) rfl ⟨rfl,A3,k3,HP.out.keep HQ.out,own_keep HE.out.2.2 HQ.out,HE.out.2.1.trans (Chg.of (X:=gP (some ⟨g,0,none⟩)) HQ.out) (fun k hk => .inl hk)⟩
theorem zero_rec (w:World):(zeroValue 32).run Tryz.prog w = .ok (.agg #[.int .i64 0, .int .i64 0, .int .i64 0, .int .i64 0]) w:=by kernel_rfl
set_option maxHeartbeats 16000000 in
theorem pinsert_first (s q cc:Nat) (C:Option Addr) (id x y l:Int) (w:World) (h:Pt1 w s q C cc 0 (.slice none 0 0)) (hm:M1 w s 0 (fun _=>none)) (hid:wf64 id) (hf:fitsB x y=true):
  Calls Tryz.prog 21 #[.pointer (some ⟨q,0,none⟩), .agg #[.int .i64 id, .int .i64 x, .int .i64 y, .int .i64 l]] w fun e w'=>e = .returned (.int .i64 0)∧∃ D cd,Pt1 w' s q C cc 1 (.slice D 1 cd)∧w'.ownsRow w.heap.size 32 4 (.slice D 1 cd) 1 [.int .i64 id, .int .i64 x, .int .i64 y, .int .i64 l]∧M1 w' s 1 (fun k=>if k=id then some (.agg #[.int .i64 id, .int .i64 x, .int .i64 y, .int .i64 l]) else none)∧Chg (fun j=>j=s∨gP C j) w w':=by
 have PM:=Lib.hid (fun (Y:World) (hY:Below w.heap.size w Y)=>pmade_any q 1 cc C Y ((hY.cell (p:=⟨q,1,none⟩) h.lt).trans h.c1) (by decide))
 have pf:=fun (Y:World)=>fits_any x y Y
 rw [hf] at pf
 have PF:=Lib.hid pf
 have H:=Lib.hid (And.intro h hm)
 have hql:=h.lt
 have hls:=h.ls
 have c3:=h.c3
 have hlk:=fun (W:World) (hW:W.heap[s]? = w.heap[s]?)=>(hm.same hW).lookOk (mt:=110) Tryz.underlying110 (zero_rec W) hid
 simp only [Option.getD_none,Option.isSome_none] at hlk
 obtain ⟨om,hom⟩:∃ o,w.heap[s]? = o:=⟨_,rfl⟩
 rw [hom] at hlk
 clear pf hf h hm
 go_enter Tryz.func21,Tryz.ntmps21
 go_wp2_with (first
  | (go_at_call 58;refine (PM.out _ q9l).mono ?_;rintro e w' ⟨rfl,hb⟩;obtain ⟨X1,rfl,hl1,hm1⟩:=later _ hb (Nat.le_refl _);clear hb;(try simp only [q9A,q9B,q9D] at hm1 hl1))
  | (go_at_call 10;refine (PF.out _).mono ?_;rintro e w' ⟨rfl,hb⟩;obtain ⟨X2,rfl,hl2,hm2⟩:=later _ hb (Nat.le_refl _);clear hb;(try simp only [q9A,q9B,q9D] at hm2 hl2)))
 have hb2:Below w.heap.size w X2.w:=q9l
 have hs2:w.heap.size+1≤X2.w.heap.size:=by go_size
 have HS:(fun w'=>w'.heap[s]? = om∧w'.cell? ⟨q,3,none⟩=some (.map (some s))∧w'.cell? ⟨w.heap.size,0,none⟩=some (.int .i64 id)) X2.w.drew:=⟨(hb2.drew.block _ (by omega)).trans hom,by go_simp,by go_simp⟩
 have HS1:(fun w'=>w'.heap[s]? = om∧w'.cell? ⟨q,3,none⟩=some (.map (some s))∧w'.cell? ⟨w.heap.size,0,none⟩=some (.int .i64 id)) (X2.w.drew.alloc (.cells #[.int .i64 0, .int .i64 0, .int .i64 0, .int .i64 0] 32)):=⟨((hb2.drew.alloc (by simp;omega) _).block _ (by omega)).trans hom,by go_simp,by go_simp⟩
 refine wp_region_early (fun w'=>w'.heap[s]? = om∧w'.cell? ⟨q,3,none⟩=some (.map (some s))∧w'.cell? ⟨w.heap.size,0,none⟩=some (.int .i64 id)) (fun _=>true) (by kernel_rfl) HS (fun HS=>?_)
 (refine q9t (i:=0) rfl HS ?_;(try simp only [Act.put,q9x,q9y,q9z]))
 (refine q9t (i:=1) rfl HS ?_;(try simp only [Act.put,q9x,q9y,q9z]))
 (refine q9t (i:=2) rfl HS ?_;(try simp only [Act.put,q9x,q9y,q9z]))
 (refine q9t (i:=3) rfl HS ?_;(try simp only [Act.put,q9x,q9y,q9z]))
 (refine q9t (i:=4) rfl HS ?_;(try simp only [Act.put,q9x,q9y,q9z]))
 (refine q9t (i:=5) rfl HS ?_;(try simp only [Act.put,q9x,q9y,q9z]))
 (refine q9t (i:=6) rfl HS ?_;(try simp only [Act.put,q9x,q9y,q9z]))
 (refine q9t (i:=7) rfl HS ?_;(try simp only [Act.put,q9x,q9y,q9z]))
 (refine q9t (i:=8) rfl HS ?_;(try simp only [Act.put,q9x,q9y,q9z]))
 (refine q9t (i:=9) rfl HS ?_;(try simp only [Act.put,q9x,q9y,q9z]))
 refine wpAnyE_one (i:=10) rfl (by kernel_rfl) ?_
 go_wp2_with fail
 refine ⟨HS1.1,?_⟩
 refine wpAnyE_one (i:=11) rfl (by kernel_rfl) ?_
 go_wp2_with fail
 first|refine ⟨fun _=>HS1,?_⟩|refine ⟨HS1.1,?_⟩
 refine wpAnyE_one (i:=12) rfl (by kernel_rfl) ?_
 go_wp2_with fail
 first|refine ⟨fun _=>HS1,?_⟩|refine ⟨HS1.1,?_⟩
 refine ⟨by kernel_rfl,?_⟩
 have HO:=Lib.hid hom
 clear hom hlk HS HS1
 go_wp2_with fail
 (refine wp_region_later_tail 7 (w.heap.size+1) (by kernel_rfl) (by kernel_rfl) (by go_size) ?_;simp only [List.take_succ_cons,List.take_zero,List.drop_succ_cons,List.drop_zero];(repeat (go_big_quiet_step (fail)));refine wpQuiet_nil ?_;intro Xq hlXq hmXq)
 have hbq:Below w.heap.size w Xq.w:=q9l
 obtain ⟨w9,hput,hM9,hg9⟩:=(H.out.2.same (hbq.block _ (by omega))).put (by decide) (mt:=110) Tryz.underlying110 hid (.agg #[.int .i64 id, .int .i64 x, .int .i64 y, .int .i64 l])
 have hc9:Chg (fun j=>j=s) w w9:=(Chg.of (X:=fun j=>j=s) hbq).trans (Chg.ofGrown (X:=fun j=>j=s) hg9 (fun k hk=>by injection hk with hk;exact hk.symm)) (fun k hk => .inl hk)
 have hs9:=hg9.size
 have hsq:w.heap.size+1≤Xq.w.heap.size:=hlXq
 have hb9:∀ i,w9.cell? ⟨w.heap.size,i,none⟩=Xq.w.cell? ⟨w.heap.size,i,none⟩:=fun i=>hg9.cell_far ⟨w.heap.size,i,none⟩ (by show w.heap.size < _;omega) (fun e=>by injection e with e;have e':w.heap.size=s:=e;omega)
 have b0:w9.cell? ⟨w.heap.size,0,none⟩=some (.int .i64 id):=(hb9 0).trans (by go_simp)
 have b1:w9.cell? ⟨w.heap.size,1,none⟩=some (.int .i64 x):=(hb9 1).trans (by go_simp)
 have b2:w9.cell? ⟨w.heap.size,2,none⟩=some (.int .i64 y):=(hb9 2).trans (by go_simp)
 have b3:w9.cell? ⟨w.heap.size,3,none⟩=some (.int .i64 l):=(hb9 3).trans (by go_simp)
 have HP:=Lib.hid (show Pt1 w9 s q C cc 0 (.slice none 0 0)∧M1 w9 s 1 _∧Chg (fun j=>j=s) w w9 from ⟨H.out.1.chg hc9 (by show ¬ q=s;omega) (fun k hk e=>by have:=H.out.1.far k hk;have e':k=s:=e;omega),hM9,hc9⟩)
 clear hM9 hg9 hc9 hb9
 go_wp2_with fail
 go_at_call 59
 refine (pput_first s q cc C id x y l _ HP.out.1).mono ?_
 rintro e w5 ⟨rfl,D,cd,hP,hR,hc⟩
 have HE:=Lib.hid (show Pt1 w5 s q C cc 1 (.slice D 1 cd)∧w5.ownsRow w.heap.size 32 4 (.slice D 1 cd) 1 [.int .i64 id, .int .i64 x, .int .i64 y, .int .i64 l]∧M1 w5 s 1 _∧Chg (fun j=>j=s∨gP C j) w w5 from ⟨hP,own_base hR (by omega),HP.out.2.1.chg hc (fun e=>by have:=HP.out.1.far s e;omega),(HP.out.2.2.mono (X':=fun j=>j=s∨gP C j) (fun k hk => .inl (.inl hk))).trans hc (fun k hk => .inl (.inr hk))⟩)
 clear hP hR hc
 go_wp2_with fail
 go_ret
 exact ⟨rfl,D,cd,HE.out⟩
end Go.Proofs.YthlijfligikciaaGreat
