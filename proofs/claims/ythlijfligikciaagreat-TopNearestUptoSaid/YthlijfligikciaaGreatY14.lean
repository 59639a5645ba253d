/- A part of one proof: PqA PqB. No condition. -/
import Derived.Test.YthlijfligikciaaGreatY12
import Derived.Test.YthlijfligikciaaGreatY13
namespace Go.Proofs.YthlijfligikciaaGreat
open Go.RowKit Go.Maps
set_option linter.unusedSimpArgs false
set_option linter.unusedVariables false
set_option maxRecDepth 2000
def rcC (r:Rc):List Value:=[.int .i64 r.id, .int .i64 r.x, .int .i64 r.y, .int .i64 r.label]
def rcF (L:List Rc):List Value:=L.flatMap rcC
def ndC (n:NdP):List Value:=[.int .i64 n.1.l, .int .i64 n.1.x, .int .i64 n.1.y, .int .i64 (n.1.kids 0), .int .i64 (n.1.kids 1), .int .i64 (n.1.kids 2), .int .i64 (n.1.kids 3), .int .i64 (n.1.many:Nat), .bool n.1.split, .slice n.2.1 n.1.rs.length n.2.2]
def ndF (N:List NdP):List Value:=N.flatMap ndC
theorem ndC_len (n:NdP):(ndC n).length=10:=rfl
theorem rcC_len (r:Rc):(rcC r).length=4:=rfl
structure PtG (w:World) (s q:Nat) (C:Option Addr) (cc:Nat) (N:List NdP):Prop where
 lt:q < w.heap.size
 ls:s < q
 c0:w.cell? ⟨q,0,none⟩=some (.int .i64 3)
 c1:w.cell? ⟨q,1,none⟩=some (.slice C N.length cc)
 f1:w.frozen? ⟨q,1,none⟩=false
 c2:w.cell? ⟨q,2,none⟩=some (.slice none 0 0)
 c3:w.cell? ⟨q,3,none⟩=some (.map (some s))
 own:w.ownsRow (q+1) 186 10 (.slice C N.length cc) N.length (ndF N)
 rows:∀ i,i < N.length→w.ownsRow (q+1) 32 4 (.slice (ndAt N i).2.1 (ndAt N i).1.rs.length (ndAt N i).2.2) (ndAt N i).1.rs.length (rcF (ndAt N i).1.rs)
 dis:∀ i j,i < N.length→j < N.length→i≠j→∀ k,gP (ndAt N i).2.1 k→¬ gP (ndAt N j).2.1 k
 disC:∀ i,i < N.length→∀ k,gP (ndAt N i).2.1 k→¬ gP C k
def PX (q:Nat) (C:Option Addr) (N:List NdP):Nat→Prop:=fun j=>j=q∨gP C j∨∃ i,i < N.length∧gP (ndAt N i).2.1 j
section
variable {X:Nat→Prop} {w w':World} {s q cc:Nat} {C:Option Addr} {N:List NdP}
theorem PtG.farC (h:PtG w s q C cc N):∀ k,gP C k→q < k∧k < w.heap.size:=fun k hk=>by
 have h1:=h.own.lt k (by rw [gOf_own];exact hk)
 exact ⟨by omega,h1.2⟩
theorem PtG.farR (h:PtG w s q C cc N) {i:Nat} (hi:i < N.length):∀ k,gP (ndAt N i).2.1 k→q < k∧k < w.heap.size:=fun k hk=>by
 have h1:=(h.rows i hi).lt k (by rw [gOf_own];exact hk)
 exact ⟨by omega,h1.2⟩
theorem PtG.far (h:PtG w s q C cc N):∀ k,PX q C N k→q≤k∧k < w.heap.size:=fun k hk=>by
 rcases hk with rfl|hk|⟨i,hi,hk⟩
 ·exact ⟨Nat.le_refl _,h.lt⟩
 ·have:=h.farC k hk;omega
 ·have:=h.farR hi k hk;omega
theorem PtG.chg (h:PtG w s q C cc N) (hc:Chg X w w') (hX:∀ k,PX q C N k→¬ X k):PtG w' s q C cc N:=by
 have h1:¬ X q:=hX q (.inl rfl)
 exact ⟨Nat.lt_of_lt_of_le h.lt hc.size,h.ls,(hc.cell (p:=⟨q,0,none⟩) h.lt h1).trans h.c0,(hc.cell (p:=⟨q,1,none⟩) h.lt h1).trans h.c1,(hc.frozen (p:=⟨q,1,none⟩) h.lt h1).trans h.f1,(hc.cell (p:=⟨q,2,none⟩) h.lt h1).trans h.c2,(hc.cell (p:=⟨q,3,none⟩) h.lt h1).trans h.c3,own_chg h.own hc (fun k hk=>hX k (.inr (.inl (by rw [gOf_own] at hk;exact hk)))),fun i hi=>own_chg (h.rows i hi) hc (fun k hk=>hX k (.inr (.inr ⟨i,hi,by rw [gOf_own] at hk;exact hk⟩))),h.dis,h.disC⟩
theorem PtG.keep (h:PtG w s q C cc N) (hb:Below w.heap.size w w'):PtG w' s q C cc N:=h.chg (X:=fun _=>False) (Chg.of hb) (fun _ _ e=>e)
theorem PtG.g (h:PtG w s q C cc N) (hn:0 < N.length):∃ g,C=some ⟨g,0,none⟩∧q < g∧g < w.heap.size:=by
 obtain ⟨g,cap,hv,hlo,hgl⟩:=h.own.form hn
 exact ⟨g,by injection hv,by omega,hgl⟩
theorem PtG.cells {g:Nat} (h:PtG w s q (some ⟨g,0,none⟩) cc N) {i:Nat} (hi:i < N.length) {j:Nat} (hj:j < 10) {v:Value} (hv:(ndC (ndAt N i))[j]? = some v):w.cell? ⟨g,i*10+j,none⟩=some v:=by
 have:=h.own.cells (g:=g) rfl (i*10+j) v (by unfold ndF;rw [flat_get ndC_len N i hi j hj,← ndAt_lt hi];exact hv)
 rw [Addr.add_lit,Nat.zero_add] at this
 exact this
theorem PtG.froz {g:Nat} (h:PtG w s q (some ⟨g,0,none⟩) cc N) (i:Nat):w.frozen? ⟨g,i,none⟩=false:=h.own.frozenAt i
theorem PtG.set {g:Nat} (h:PtG w s q (some ⟨g,0,none⟩) cc N) {i:Nat} (hi:i < N.length) {j:Nat} (hj:j < 10) {v:Value} {n:NdP} (hv:(ndC (ndAt N i)).set j v=ndC n) (hr:n.1.rs=(ndAt N i).1.rs) (hp:n.2=(ndAt N i).2):PtG (w.setCell ⟨g,i*10+j,none⟩ v) s q (some ⟨g,0,none⟩) cc (N.set i n):=by
 have hg:gP (some ⟨g,0,none⟩) g:=rfl
 have hfc:=h.farC g hg
 have hblk:∀ k,k≠g→(w.setCell ⟨g,i*10+j,none⟩ v).heap[k]? = w.heap[k]? := fun k hk=>Below.heap_setCell w _ v k hk
 have hq:q≠g:=by omega
 have hnd:∀ m,m < N.length→(ndAt (N.set i n) m).2=(ndAt N m).2∧(ndAt (N.set i n) m).1.rs=(ndAt N m).1.rs:=fun m hm=>by
  rw [ndAt_set hi]
  by_cases e:m=i
  ·rw [if_pos e,e];exact ⟨hp,hr⟩
  ·rw [if_neg e];exact ⟨rfl,rfl⟩
 have ho:=(h.own.stored (i*10+j) v).1
 have hs:(ndF N).set (i*10+j) v=ndF (N.set i n):=flat_set ndC_len N i hi j hj v n (by rw [← ndAt_lt hi];exact hv)
 rw [hs] at ho
 refine ⟨by rw [World.size_setCell];exact h.lt,h.ls,(World.cell?_of_block (a:=⟨q,0,none⟩) (hblk q hq)).trans h.c0,?_,(World.frozen?_of_block (a:=⟨q,1,none⟩) (hblk q hq)).trans h.f1,(World.cell?_of_block (a:=⟨q,2,none⟩) (hblk q hq)).trans h.c2,(World.cell?_of_block (a:=⟨q,3,none⟩) (hblk q hq)).trans h.c3,?_,fun m hm=>?_,fun m m' hm hm' hne k=>?_,fun m hm k=>?_⟩
 ·rw [List.length_set];exact (World.cell?_of_block (a:=⟨q,1,none⟩) (hblk q hq)).trans h.c1
 ·rw [List.length_set];exact ho
 ·rw [List.length_set] at hm
  rw [(hnd m hm).1,(hnd m hm).2]
  exact own_setO (h.rows m hm) (fun k hk e=>h.disC m hm k (by rw [gOf_own] at hk;exact hk) (by rw [← e];exact hg)) v
 ·rw [List.length_set] at hm hm'
  rw [(hnd m hm).1,(hnd m' hm').1]
  exact h.dis m m' hm hm' hne k
 ·rw [List.length_set] at hm
  rw [(hnd m hm).1]
  exact h.disC m hm k
theorem PX_set {i:Nat} {n:NdP} (hi:i < N.length) (hp:n.2=(ndAt N i).2):∀ k,PX q C (N.set i n) k↔PX q C N k:=fun k=>by
 have hnd:∀ m,(ndAt (N.set i n) m).2=(ndAt N m).2:=fun m=>by
  rw [ndAt_set hi]
  by_cases e:m=i
  ·rw [if_pos e,e];exact hp
  ·rw [if_neg e]
 unfold PX
 simp only [List.length_set,hnd]
end
set_option maxHeartbeats 16000000 in
theorem pleaf_any (s q cc:Nat) (C:Option Addr) (N:List NdP) (l x y:Int) (w:World) (h:PtG w s q C cc N) (hN:N.length≤1000000):
  Calls Tryz.prog 54 #[.pointer (some ⟨q,0,none⟩), .agg #[.int .i64 l, .int .i64 x, .int .i64 y]] w fun e w'=>e = .returned (.int .i64 N.length)∧∃ C' cc',PtG w' s q C' cc' (N ++ [(⟨l,x,y,noKids,0,false,[]⟩,(none,0))])∧Chg (fun j=>j=q∨gP C j) w w'∧∀ j,gP C' j→gP C j∨w.heap.size≤j:=by
 obtain ⟨i0,hi,hz0,hz1,hz2⟩:=info_parts (show (Tryz.prog.info? 186).map (fun i=>(i.zero,i.size,i.bytes))=some (some (.agg #[.int .i64 0, .int .i64 0, .int .i64 0, .int .i64 0, .int .i64 0, .int .i64 0, .int .i64 0, .int .i64 0, .bool false, .slice none 0 0]),10,96) by kernel_rfl)
 have H:=Lib.hid h
 have hq:=h.lt
 have q1:=h.c1
 have f1:=h.f1
 have q2:=h.c2
 obtain ⟨n,hn⟩:∃ n,N.length=n:=⟨_,rfl⟩
 rw [hn] at q1 hN ⊢
 have HN:=Lib.hid hn
 have hfC:=Lib.hid h.farC
 clear h hn
 go_enter Tryz.func54,Tryz.ntmps54
 go_wp2_with fail
 have HS:(fun w'=>w'.cell? ⟨q,1,none⟩=some (.slice C n cc)∧w'.cell? ⟨w.heap.size+1,0,none⟩=some (.int .i64 l)∧w'.cell? ⟨w.heap.size+1,1,none⟩=some (.int .i64 x)∧w'.cell? ⟨w.heap.size+1,2,none⟩=some (.int .i64 y)∧w'.cell? ⟨w.heap.size+1,3,none⟩=some (.int .i64 (-1))∧w'.cell? ⟨w.heap.size+1,4,none⟩=some (.int .i64 (-1))∧w'.cell? ⟨w.heap.size+1,5,none⟩=some (.int .i64 (-1))∧w'.cell? ⟨w.heap.size+1,6,none⟩=some (.int .i64 (-1))∧w'.cell? ⟨w.heap.size+1,7,none⟩=some (.int .i64 0)∧w'.cell? ⟨w.heap.size+1,8,none⟩=some (.bool false)∧w'.cell? ⟨w.heap.size+1,9,none⟩=some (.slice none 0 0)) ((w.alloc (.cells #[.int .i64 l, .int .i64 x, .int .i64 y] 83)).alloc (.cells #[.int .i64 l, .int .i64 x, .int .i64 y, .int .i64 (-1), .int .i64 (-1), .int .i64 (-1), .int .i64 (-1), .int .i64 0, .bool false, .slice none 0 0] 186)).drew:=⟨by go_simp,by go_simp,by go_simp,by go_simp,by go_simp,by go_simp,by go_simp,by go_simp,by go_simp,by go_simp,by go_simp⟩
 refine wp_region_early (fun w'=>w'.cell? ⟨q,1,none⟩=some (.slice C n cc)∧w'.cell? ⟨w.heap.size+1,0,none⟩=some (.int .i64 l)∧w'.cell? ⟨w.heap.size+1,1,none⟩=some (.int .i64 x)∧w'.cell? ⟨w.heap.size+1,2,none⟩=some (.int .i64 y)∧w'.cell? ⟨w.heap.size+1,3,none⟩=some (.int .i64 (-1))∧w'.cell? ⟨w.heap.size+1,4,none⟩=some (.int .i64 (-1))∧w'.cell? ⟨w.heap.size+1,5,none⟩=some (.int .i64 (-1))∧w'.cell? ⟨w.heap.size+1,6,none⟩=some (.int .i64 (-1))∧w'.cell? ⟨w.heap.size+1,7,none⟩=some (.int .i64 0)∧w'.cell? ⟨w.heap.size+1,8,none⟩=some (.bool false)∧w'.cell? ⟨w.heap.size+1,9,none⟩=some (.slice none 0 0)) (fun j=>decide (j < 8)) (by kernel_rfl) HS (fun HS=>?_)
 (refine q9t (i:=0) rfl HS ?_;(try simp only [Act.put,q9x,q9y,q9z]))
 (refine q9t (i:=1) rfl HS ?_;(try simp only [Act.put,q9x,q9y,q9z]))
 (refine q9t (i:=2) rfl HS ?_;(try simp only [Act.put,q9x,q9y,q9z]))
 (refine q9t (i:=3) rfl HS ?_;(try simp only [Act.put,q9x,q9y,q9z]))
 (refine q9t (i:=4) rfl HS ?_;(try simp only [Act.put,q9x,q9y,q9z]))
 (refine q9t (i:=5) rfl HS ?_;(try simp only [Act.put,q9x,q9y,q9z]))
 refine wpAnyE_one (i:=6) rfl (by kernel_rfl) ?_
 go_wp2_with fail
 have HS:(fun w'=>w'.cell? ⟨q,1,none⟩=some (.slice C n cc)∧w'.cell? ⟨w.heap.size+1,0,none⟩=some (.int .i64 l)∧w'.cell? ⟨w.heap.size+1,1,none⟩=some (.int .i64 x)∧w'.cell? ⟨w.heap.size+1,2,none⟩=some (.int .i64 y)∧w'.cell? ⟨w.heap.size+1,3,none⟩=some (.int .i64 (-1))∧w'.cell? ⟨w.heap.size+1,4,none⟩=some (.int .i64 (-1))∧w'.cell? ⟨w.heap.size+1,5,none⟩=some (.int .i64 (-1))∧w'.cell? ⟨w.heap.size+1,6,none⟩=some (.int .i64 (-1))∧w'.cell? ⟨w.heap.size+1,7,none⟩=some (.int .i64 0)∧w'.cell? ⟨w.heap.size+1,8,none⟩=some (.bool false)∧w'.cell? ⟨w.heap.size+1,9,none⟩=some (.slice none 0 0)) (((w.alloc (.cells #[.int .i64 l, .int .i64 x, .int .i64 y] 83)).alloc (.cells #[.int .i64 l, .int .i64 x, .int .i64 y, .int .i64 (-1), .int .i64 (-1), .int .i64 (-1), .int .i64 (-1), .int .i64 0, .bool false, .slice none 0 0] 186)).drew.alloc (.cells #[.int .i64 l, .int .i64 x, .int .i64 y, .int .i64 (-1), .int .i64 (-1), .int .i64 (-1), .int .i64 (-1), .int .i64 0, .bool false, .slice none 0 0] 186)):=⟨by go_simp,by go_simp,by go_simp,by go_simp,by go_simp,by go_simp,by go_simp,by go_simp,by go_simp,by go_simp,by go_simp⟩
 first|refine ⟨fun _=>HS,?_⟩|skip
 refine wpAnyE_one (i:=7) rfl (by kernel_rfl) ?_
 have hb2:Below w.heap.size w (((w.alloc (.cells #[.int .i64 l, .int .i64 x, .int .i64 y] 83)).alloc (.cells #[.int .i64 l, .int .i64 x, .int .i64 y, .int .i64 (-1), .int .i64 (-1), .int .i64 (-1), .int .i64 (-1), .int .i64 0, .bool false, .slice none 0 0] 186)).drew.alloc (.cells #[.int .i64 l, .int .i64 x, .int .i64 y, .int .i64 (-1), .int .i64 (-1), .int .i64 (-1), .int .i64 (-1), .int .i64 0, .bool false, .slice none 0 0] 186)):=((((Below.refl w.heap.size w).alloc (Nat.le_refl _) _).alloc (by simp) _).drew).alloc (by simp;omega) _
 have how:w.ownsRow (q+1) 186 10 (.slice C n cc) n (ndF N):=by have:=H.out.own;rw [HN.out] at this;exact this
 refine wpList_append_own_at _ rfl _ _ 111 rfl (q+1) 186 i0 (.agg #[.int .i64 0, .int .i64 0, .int .i64 0, .int .i64 0, .int .i64 0, .int .i64 0, .int .i64 0, .int .i64 0, .bool false, .slice none 0 0]) 10 96 Tryz.underlying111 hi hz0 hz1 hz2 rfl (by decide) (.slice C n cc) n _ (by rfl) (own_keep how hb2) ⟨w.heap.size+2,0,none⟩ 1 1 [.int .i64 l, .int .i64 x, .int .i64 y, .int .i64 (-1), .int .i64 (-1), .int .i64 (-1), .int .i64 (-1), .int .i64 0, .bool false, .slice none 0 0] (by rfl) (by rfl) (by
  have h9:=cells_ten_new ((w.alloc (.cells #[.int .i64 l, .int .i64 x, .int .i64 y] 83)).alloc (.cells #[.int .i64 l, .int .i64 x, .int .i64 y, .int .i64 (-1), .int .i64 (-1), .int .i64 (-1), .int .i64 (-1), .int .i64 0, .bool false, .slice none 0 0] 186)).drew (.int .i64 l) (.int .i64 x) (.int .i64 y) (.int .i64 (-1)) (.int .i64 (-1)) (.int .i64 (-1)) (.int .i64 (-1)) (.int .i64 0) (.bool false) (.slice none 0 0) 186
  have e9:((w.alloc (.cells #[.int .i64 l, .int .i64 x, .int .i64 y] 83)).alloc (.cells #[.int .i64 l, .int .i64 x, .int .i64 y, .int .i64 (-1), .int .i64 (-1), .int .i64 (-1), .int .i64 (-1), .int .i64 0, .bool false, .slice none 0 0] 186)).drew.heap.size=w.heap.size+2:=by simp
  rw [e9] at h9
  exact h9) (by intro u hu;simp at hu;rcases hu with rfl|rfl|rfl|rfl|rfl|rfl|rfl <;> rfl) (by unfold maxLen;omega) (by omega) (by simp;omega) ?_
 intro v3 w3 hown3 hgrow3 _ hat3
 obtain ⟨A3,k3,rfl⟩:=own_formN hown3
 have hc3:Chg (fun j=>gP C j) w w3:=(Chg.of (X:=gP C) hb2).trans (Chg.ofGrown (X:=gP C) hgrow3 (fun k hk=>by rw [gOf_own] at hk;exact hk)) (fun k hk => .inl hk)
 have hA3:∀ j,gP A3 j→gP C j∨w.heap.size≤j:=fun j hj=>by
  rw [gOf_own,gOf_own] at hat3
  rcases hat3 with e|e
  ·exact .inl (e.symm.trans hj)
  ·refine .inr ?_
   unfold gP at hj
   rw [e] at hj
   injection hj with hj
   simp at hj
   omega
 have q3:∀ p:Addr,p.block < w.heap.size+3→¬ gP C p.block→w3.cell? p=(((w.alloc (.cells #[.int .i64 l, .int .i64 x, .int .i64 y] 83)).alloc (.cells #[.int .i64 l, .int .i64 x, .int .i64 y, .int .i64 (-1), .int .i64 (-1), .int .i64 (-1), .int .i64 (-1), .int .i64 0, .bool false, .slice none 0 0] 186)).drew.alloc (.cells #[.int .i64 l, .int .i64 x, .int .i64 y, .int .i64 (-1), .int .i64 (-1), .int .i64 (-1), .int .i64 (-1), .int .i64 0, .bool false, .slice none 0 0] 186)).cell? p:=fun p hp hn=>hgrow3.cell_far p (by simp;omega) (fun e=>by rw [gOf_own] at e;exact hn e.symm)
 have hnC:¬ gP C (w.heap.size+1):=fun e=>by have:=hfC.out _ e;omega
 have hqC:¬ gP C q:=fun e=>by have:=hfC.out _ e;omega
 have HS3:(fun w'=>w'.cell? ⟨q,1,none⟩=some (.slice C n cc)∧w'.cell? ⟨w.heap.size+1,0,none⟩=some (.int .i64 l)∧w'.cell? ⟨w.heap.size+1,1,none⟩=some (.int .i64 x)∧w'.cell? ⟨w.heap.size+1,2,none⟩=some (.int .i64 y)∧w'.cell? ⟨w.heap.size+1,3,none⟩=some (.int .i64 (-1))∧w'.cell? ⟨w.heap.size+1,4,none⟩=some (.int .i64 (-1))∧w'.cell? ⟨w.heap.size+1,5,none⟩=some (.int .i64 (-1))∧w'.cell? ⟨w.heap.size+1,6,none⟩=some (.int .i64 (-1))∧w'.cell? ⟨w.heap.size+1,7,none⟩=some (.int .i64 0)∧w'.cell? ⟨w.heap.size+1,8,none⟩=some (.bool false)∧w'.cell? ⟨w.heap.size+1,9,none⟩=some (.slice none 0 0)) w3:=⟨(q3 ⟨q,1,none⟩ (by show q < _;omega) hqC).trans (by go_simp),(q3 ⟨w.heap.size+1,0,none⟩ (by show w.heap.size+1 < _;omega) hnC).trans (by go_simp),(q3 ⟨w.heap.size+1,1,none⟩ (by show w.heap.size+1 < _;omega) hnC).trans (by go_simp),(q3 ⟨w.heap.size+1,2,none⟩ (by show w.heap.size+1 < _;omega) hnC).trans (by go_simp),(q3 ⟨w.heap.size+1,3,none⟩ (by show w.heap.size+1 < _;omega) hnC).trans (by go_simp),(q3 ⟨w.heap.size+1,4,none⟩ (by show w.heap.size+1 < _;omega) hnC).trans (by go_simp),(q3 ⟨w.heap.size+1,5,none⟩ (by show w.heap.size+1 < _;omega) hnC).trans (by go_simp),(q3 ⟨w.heap.size+1,6,none⟩ (by show w.heap.size+1 < _;omega) hnC).trans (by go_simp),(q3 ⟨w.heap.size+1,7,none⟩ (by show w.heap.size+1 < _;omega) hnC).trans (by go_simp),(q3 ⟨w.heap.size+1,8,none⟩ (by show w.heap.size+1 < _;omega) hnC).trans (by go_simp),(q3 ⟨w.heap.size+1,9,none⟩ (by show w.heap.size+1 < _;omega) hnC).trans (by go_simp)⟩
 refine ⟨fun _=>HS3,?_⟩
 have c3:w3.cell? ⟨q,1,none⟩=some (.slice C n cc):=HS3.1
 have z3:w3.frozen? ⟨q,1,none⟩=false:=(hc3.frozen (p:=⟨q,1,none⟩) hq hqC).trans f1
 have hqA:¬ gP A3 q:=fun e=>(hA3 q e).elim hqC (fun e=>by omega)
 have hcS:Chg (fun j=>j=q∨gP C j) w (w3.setCell ⟨q,1,none⟩ (.slice A3 (n+1) k3)):=(hc3.mono (X':=fun j=>j=q∨gP C j) (fun k hk => .inl (.inr hk))).set (p:=⟨q,1,none⟩) (.inl (.inl rfl)) _
 have d0:w3.cell? ⟨q,0,none⟩=some (.int .i64 3):=(hc3.cell (p:=⟨q,0,none⟩) hq hqC).trans H.out.c0
 have d2:w3.cell? ⟨q,2,none⟩=some (.slice none 0 0):=(hc3.cell (p:=⟨q,2,none⟩) hq hqC).trans H.out.c2
 have d3:w3.cell? ⟨q,3,none⟩=some (.map (some s)):=(hc3.cell (p:=⟨q,3,none⟩) hq hqC).trans H.out.c3
 have hnew:(N ++ [((⟨l,x,y,noKids,0,false,[]⟩:Nd),((none:Option Addr),0))]).length=n+1:=by simp [HN.out]
 have hndN:∀ m,m < n+1→m≠n→ndAt (N ++ [((⟨l,x,y,noKids,0,false,[]⟩:Nd),((none:Option Addr),0))]) m=ndAt N m:=fun m hm hne=>ndAt_app (by rw [HN.out];omega)
 have hndL:ndAt (N ++ [((⟨l,x,y,noKids,0,false,[]⟩:Nd),((none:Option Addr),0))]) n=(⟨l,x,y,noKids,0,false,[]⟩,(none,0)):=by rw [← HN.out];exact ndAt_new
 have hP:PtG (w3.setCell ⟨q,1,none⟩ (.slice A3 (n+1) k3)) s q A3 k3 (N ++ [(⟨l,x,y,noKids,0,false,[]⟩,(none,0))]):=by
  refine ⟨Nat.lt_of_lt_of_le hq hcS.size,H.out.ls,by go_simp,by rw [hnew];go_simp,by go_simp,by go_simp,by go_simp,?_,fun m hm=>?_,fun m m' hm hm' hne k hk=>?_,fun m hm k hk=>?_⟩
  ·rw [hnew]
   unfold ndF
   rw [flat_app]
   exact own_set hown3 (p:=⟨q,1,none⟩) (by show q < q+1;omega) _
  ·rw [hnew] at hm
   by_cases e:m=n
   ·rw [e,hndL]
    exact World.ownsRow_nil _ _ _ _
   ·rw [hndN m hm e]
    exact own_chg (H.out.rows m (by rw [HN.out];omega)) hcS (fun k hk e'=>by
     rw [gOf_own] at hk
     have h1:=H.out.farR (show m < N.length by rw [HN.out];omega) k hk
     rcases e' with e'|e'
     ·omega
     ·exact H.out.disC m (by rw [HN.out];omega) k hk e')
  ·rw [hnew] at hm hm'
   by_cases e:m=n
   ·rw [e,hndL] at hk;cases hk
   ·rw [hndN m hm e] at hk
    by_cases e':m'=n
    ·rw [e',hndL];intro h9;cases h9
    ·rw [hndN m' hm' e']
     exact H.out.dis m m' (by rw [HN.out];omega) (by rw [HN.out];omega) hne k hk
  ·rw [hnew] at hm
   by_cases e:m=n
   ·rw [e,hndL] at hk;cases hk
   ·rw [hndN m hm e] at hk
    intro h9
    rcases hA3 k h9 with h8|h8
    ·exact H.out.disC m (by rw [HN.out];omega) k hk h8
    ·have:=H.out.farR (show m < N.length by rw [HN.out];omega) k hk;omega
 have HE:=Lib.hid (show PtG _ s q A3 k3 _∧Chg (fun j=>j=q∨gP C j) w _∧∀ j,gP A3 j→gP C j∨w.heap.size≤j from ⟨hP,hcS,hA3⟩)
 clear hown3 hgrow3 q3 HS HS3 hat3 hc3 hA3 hcS d0 d2 d3 hndN hndL hP hb2 how
 refine wpAnyE_rest (k:=8) rfl (by kernel_rfl) (fun j hj=>by simp;omega) ?_
 simp only [List.drop_succ_cons,List.drop_zero]
 go_wp2_with fail
 go_ret
 exact ⟨rfl,A3,k3,HE.out⟩
theorem sd_half {l:Int} (h0:0≤l) (h1:l < 16):sd l=2*sd (l+1):=by
 unfold sd
 rw [show (16 - l).toNat=(16 - (l+1)).toNat+1 by omega,Int.pow_succ]
 omega
def kidJ (l x y:Int):Fin 4:=⟨((x / sd (l+1)) % 2+(y / sd (l+1)) % 2*2).toNat % 4,by omega⟩
theorem kidJ_val {l x y:Int}:(((kidJ l x y).val:Nat):Int)=(x / sd (l+1)) % 2+(y / sd (l+1)) % 2*2:=by
 unfold kidJ
 simp only
 omega
theorem kid_in {l X Y:Int} {r:Rc} (h0:0≤l) (h1:l < 16) (h:inC l X Y r):inC (l+1) (kx X (kidJ l r.x r.y)) (ky Y (kidJ l r.x r.y)) r:=by
 obtain ⟨hf,rfl,rfl⟩:=h
 have hv:=kidJ_val (l:=l) (x:=r.x) (y:=r.y)
 have hx:r.x / sd l=r.x / sd (l+1) / 2:=by rw [sd_half h0 h1,Int.mul_comm,← Int.ediv_ediv_of_nonneg (by have:=sd_pos (l+1);omega)]
 have hy:r.y / sd l=r.y / sd (l+1) / 2:=by rw [sd_half h0 h1,Int.mul_comm,← Int.ediv_ediv_of_nonneg (by have:=sd_pos (l+1);omega)]
 refine ⟨hf,?_,?_⟩
 ·unfold kx
  rw [hx]
  omega
 ·unfold ky
  rw [hy]
  omega
set_option maxHeartbeats 16000000 in
theorem pkid_any (s q cc i:Nat) (C:Option Addr) (N:List NdP) (l x y:Int) (w:World) (h:PtG w s q C cc N) (hN:N.length≤1000000) (hi:i < N.length) (hl:(ndAt N i).1.l=l) (h0:0≤l) (h1:l < 16) (hf:fitsB x y=true):
  Calls Tryz.prog 101 #[.pointer (some ⟨q,0,none⟩), .int .i64 i, .agg #[.int .i64 x, .int .i64 y]] w fun e w'=>e = .returned (.int .i64 ((kidJ l x y).val:Nat))∧Below w.heap.size w w':=by
 rw [kidJ_val]
 obtain ⟨g,rfl,hqg,hgl⟩:=h.g (by omega)
 have hq:=h.lt
 have q1:=h.c1
 have d0:=h.cells hi (j:=0) (by decide) rfl
 rw [hl] at d0
 simp only [Nat.add_zero] at d0
 have pof:=fun (Y:World)=>cof_any x y (l+1) Y
 rw [show (lvlB (l+1) && fitsB x y)=true by rw [hf,lvl_iff.2 ⟨by omega,by omega⟩];rfl] at pof
 simp only [sel,if_true] at pof
 have hx0:0≤x / sd (l+1):=Int.ediv_nonneg (fits_iff.1 hf).1 (by have:=sd_pos (l+1);omega)
 have hy0:0≤y / sd (l+1):=Int.ediv_nonneg (fits_iff.1 hf).2.2.1 (by have:=sd_pos (l+1);omega)
 obtain ⟨cx,hcx⟩:∃ c,x / sd (l+1)=c:=⟨_,rfl⟩
 obtain ⟨cy,hcy⟩:∃ c,y / sd (l+1)=c:=⟨_,rfl⟩
 rw [hcx] at hx0
 rw [hcy] at hy0
 rw [hcx,hcy] at pof ⊢
 have POf:=Lib.hid pof
 obtain ⟨n,hn⟩:∃ n,N.length=n:=⟨_,rfl⟩
 rw [hn] at q1 hi hN
 clear h pof hl hcx hcy hn hf
 go_enter Tryz.func101,Tryz.ntmps101
 go_upto_region 1 with fail
 go_cut [7,8] from 9 to 23 (fun p9 s9 wx=>∃ nb:Nat,p9 = .pointer (some ⟨nb,0,none⟩)∧s9 = .bool true∧(w.heap.size≤nb∧nb < wx.heap.size)∧(wx.cell? ⟨nb,0,none⟩=some (.int .i64 (l+1))∧wx.cell? ⟨nb,1,none⟩=some (.int .i64 cx)∧wx.cell? ⟨nb,2,none⟩=some (.int .i64 cy))∧Below w.heap.size w wx)
 case first=>
  have hz:(w.alloc (.cells #[.int .i64 x, .int .i64 y] 30)).heap.size=w.heap.size+1:=by simp
  have HSS:=Lib.hid (show ∀ W',Below (w.heap.size+1) (w.alloc (.cells #[.int .i64 x, .int .i64 y] 30)) W'→(fun w'=>w'.cell? ⟨w.heap.size,0,none⟩=some (.int .i64 x)∧w'.cell? ⟨w.heap.size,1,none⟩=some (.int .i64 y)∧w'.cell? ⟨q,1,none⟩=some (.slice (some ⟨g,0,none⟩) n cc)∧w'.cell? ⟨g,i*10,none⟩=some (.int .i64 l)) W' from fun W' hb=>⟨(hb.cell (p:=⟨w.heap.size,0,none⟩) (by show w.heap.size < _;omega)).trans (by go_simp),(hb.cell (p:=⟨w.heap.size,1,none⟩) (by show w.heap.size < _;omega)).trans (by go_simp),(hb.cell (p:=⟨q,1,none⟩) (by show q < _;omega)).trans (by go_simp),(hb.cell (p:=⟨g,i*10,none⟩) (by show g < _;omega)).trans (by go_simp)⟩)
  have hbw:Below w.heap.size w (w.alloc (.cells #[.int .i64 x, .int .i64 y] 30)):=(Below.refl _ _).alloc (Nat.le_refl _) _
  refine wp_region_early (fun w'=>w'.cell? ⟨w.heap.size,0,none⟩=some (.int .i64 x)∧w'.cell? ⟨w.heap.size,1,none⟩=some (.int .i64 y)∧w'.cell? ⟨q,1,none⟩=some (.slice (some ⟨g,0,none⟩) n cc)∧w'.cell? ⟨g,i*10,none⟩=some (.int .i64 l)) (fun _=>true) (by kernel_rfl) (HSS.out _ (Below.drew (Below.refl _ _))) (fun HS=>?_)
  (refine q9t (i:=0) rfl HS ?_;(try simp only [Act.put,q9x,q9y,q9z]))
  (refine q9t (i:=1) rfl HS ?_;(try simp only [Act.put,q9x,q9y,q9z]))
  (refine q9t (i:=2) rfl HS ?_;(try simp only [Act.put,q9x,q9y,q9z]))
  (refine q9t (i:=3) rfl HS ?_;(try simp only [Act.put,q9x,q9y,q9z]))
  (refine q9t (i:=4) rfl HS ?_;(try simp only [Act.put,q9x,q9y,q9z]))
  (refine q9t (i:=5) rfl HS ?_;(try simp only [Act.put,q9x,q9y,q9z]))
  (refine q9t (i:=6) rfl HS ?_;(try simp only [Act.put,q9x,q9y,q9z]))
  (refine q9t (i:=7) rfl HS ?_;(try simp only [Act.put,q9x,q9y,q9z]))
  (refine q9t (i:=8) rfl HS ?_;(try simp only [Act.put,q9x,q9y,q9z]))
  (refine q9t (i:=9) rfl HS ?_;(try simp only [Act.put,q9x,q9y,q9z]))
  (refine q9t (i:=10) rfl HS ?_;(try simp only [Act.put,q9x,q9y,q9z]))
  refine wpAnyE_two (i:=11) (j:=15) rfl rfl (by kernel_rfl) ?_ ?_
  ·go_wp2_with fail
   go_at_call 29
   refine (POf.out _).mono ?_
   rintro e w' ⟨rfl,hb⟩
   have hb':Below (w.heap.size+1) (w.alloc (.cells #[.int .i64 x, .int .i64 y] 30)) w':=(Below.drew (Below.refl _ _)).trans (hb.mono (by simp))
   obtain ⟨X1,rfl⟩:∃ X:Later (w.heap.size+1) (w.alloc (.cells #[.int .i64 x, .int .i64 y] 30)),w'=X.w:=⟨⟨w',hb'⟩,rfl⟩
   have hs1:=hb'.size
   rw [hz] at hs1
   clear hb hb'
   go_wp2_with fail
   first|refine ⟨fun _=>HSS.out _ X1.is,?_⟩|skip
   have HS:=HSS.out _ X1.is
   (refine q9t (i:=12) rfl HS ?_;(try simp only [Act.put,q9x,q9y,q9z]))
   (refine q9t (i:=13) rfl HS ?_;(try simp only [Act.put,q9x,q9y,q9z]))
   (refine q9t (i:=14) rfl HS ?_;(try simp only [Act.put,q9x,q9y,q9z]))
   refine wpAnyE_one (i:=15) rfl (by kernel_rfl) ?_
   go_wp2_with fail
   first|refine ⟨fun _=>HSS.out _ (X1.is.alloc hs1 _),?_⟩|skip
   refine wpAnyE_one (i:=16) rfl (by kernel_rfl) ?_
   go_wp2_with fail
   first|refine ⟨fun _=>HSS.out _ (X1.is.alloc hs1 _),?_⟩|skip
   refine wpAnyE_one (i:=17) rfl (by kernel_rfl) ?_
   go_wp2_with fail
   first|refine ⟨fun _=>HSS.out _ (X1.is.alloc hs1 _),?_⟩|skip
   refine ⟨by kernel_rfl,?_⟩
   go_wp2_with fail
   go_meet
   exact ⟨_,rfl,rfl,⟨by omega,by simp⟩,⟨by go_simp,by go_simp,by go_simp⟩,(hbw.trans (X1.is.mono (Nat.le_succ _))).alloc (by omega) _⟩
  ·go_wp2_with fail
   have hba:Below (w.heap.size+1) (w.alloc (.cells #[.int .i64 x, .int .i64 y] 30)) ((w.alloc (.cells #[.int .i64 x, .int .i64 y] 30)).drew.alloc (.cells #[.int .i64 0, .int .i64 0, .int .i64 0] 83)):=(Below.drew (Below.refl _ _)).alloc (by simp) _
   have HS:=HSS.out _ hba
   first|refine ⟨fun _=>HS,?_⟩|skip
   refine wpAnyE_one (i:=11) rfl (by kernel_rfl) ?_
   go_wp2_with fail
   go_at_call 29
   refine (POf.out _).mono ?_
   rintro e w' ⟨rfl,hb⟩;obtain ⟨X1,rfl,hl1,hm1⟩:=later _ hb (Nat.le_refl _);clear hb;(try simp only [q9A,q9B,q9D] at hm1 hl1)
   have hb1:Below (w.heap.size+1) (w.alloc (.cells #[.int .i64 x, .int .i64 y] 30)) X1.w:=q9l
   have HS:=HSS.out _ hb1
   go_wp2_with fail
   first|refine ⟨fun _=>HS,?_⟩|skip
   (refine q9t (i:=12) rfl HS ?_;(try simp only [Act.put,q9x,q9y,q9z]))
   (refine q9t (i:=13) rfl HS ?_;(try simp only [Act.put,q9x,q9y,q9z]))
   (refine q9t (i:=14) rfl HS ?_;(try simp only [Act.put,q9x,q9y,q9z]))
   have hb2:Below (w.heap.size+1) (w.alloc (.cells #[.int .i64 x, .int .i64 y] 30)) (((X1.w.setCell ⟨w.heap.size+1,0,none⟩ (.int .i64 (l+1))).setCell ⟨w.heap.size+1,1,none⟩ (.int .i64 cx)).setCell ⟨w.heap.size+1,2,none⟩ (.int .i64 cy)):=((hb1.setCell (Nat.le_refl _) _).setCell (Nat.le_refl _) _).setCell (Nat.le_refl _) _
   refine wpAnyE_one (i:=16) rfl (by kernel_rfl) ?_
   go_wp2_with fail
   first|refine ⟨fun _=>HSS.out _ hb2,?_⟩|skip
   refine wpAnyE_one (i:=17) rfl (by kernel_rfl) ?_
   go_wp2_with fail
   first|refine ⟨fun _=>HSS.out _ hb2,?_⟩|skip
   refine ⟨by kernel_rfl,?_⟩
   go_wp2_with fail
   go_meet
   exact ⟨_,rfl,rfl,⟨by omega,by go_size⟩,⟨by go_simp,by go_simp,by go_simp⟩,hbw.trans (hb2.mono (Nat.le_succ _))⟩
 case rest=>
  obtain ⟨nb,rfl,rfl,⟨hn1,hn2⟩,⟨a0,a1,a2⟩,hb⟩:=hcut
  have HB:=Lib.hid hb
  clear hb
  go_wp2_with fail
  go_ret
  exact ⟨rfl,HB.out⟩
end Go.Proofs.YthlijfligikciaaGreat
