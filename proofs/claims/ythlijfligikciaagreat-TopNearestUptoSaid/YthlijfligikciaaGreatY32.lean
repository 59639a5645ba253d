/- A part of one proof: QuD QuE SeA. No condition. -/
import Derived.Test.YthlijfligikciaaGreatY24
import Derived.Test.YthlijfligikciaaGreatY13
import Derived.Test.YthlijfligikciaaGreatY10
namespace Go.Proofs.YthlijfligikciaaGreat
open Go.RowKit Go.Maps
set_option linter.unusedSimpArgs false
set_option linter.unusedVariables false
set_option maxRecDepth 2000
structure Fd (w:World) (f fq m n:Nat) (S:Int→Option Value) (C:Option Addr) (nq cq:Nat) (xs:List Value):Prop where
 c0:w.cell? ⟨f,0,none⟩=some (.pointer (some ⟨fq,0,none⟩))
 c1:w.cell? ⟨f,1,none⟩=some (.map (some m))
 q:Qu w fq C nq cq xs
 mp:M1 w m n S
 ord:fq < m∧m < f
 far:∀ k,gP C k→k≠m∧k≠f
theorem Fd.lt {w:World} {f fq m n nq cq:Nat} {S:Int→Option Value} {C:Option Addr} {xs:List Value} (h:Fd w f fq m n S C nq cq xs):f < w.heap.size:=cell_lt h.c0
theorem Fd.keep {w w':World} {f fq m n nq cq:Nat} {S:Int→Option Value} {C:Option Addr} {xs:List Value} (h:Fd w f fq m n S C nq cq xs) (hb:Below w.heap.size w w'):Fd w' f fq m n S C nq cq xs:=
 ⟨(hb.cell (p:=⟨f,0,none⟩) h.lt).trans h.c0,(hb.cell (p:=⟨f,1,none⟩) h.lt).trans h.c1,h.q.keep hb,h.mp.same (hb.block _ h.mp.lt),h.ord,h.far⟩
set_option maxHeartbeats 4000000 in
theorem begin_any (w:World):Calls Tryz.prog 36 #[] w fun e w'=>∃ f fq m,e = .returned (.pointer (some ⟨f,0,none⟩))∧w.heap.size≤fq∧Fd w' f fq m 0 (fun _=>none) none 0 0 []∧Below w.heap.size w w':=by
 have hmm:=@run_makeMap Tryz.prog
 have PQ:=Lib.hid (fun (Y:World)=>qnew_any Y)
 go_enter Tryz.func36,Tryz.ntmps36
 go_wp2_with fail
 go_at_call 81
 refine (PQ.out _).mono ?_
 rintro e w1 ⟨rfl,hq,hb⟩
 obtain ⟨X1,rfl,hl1,hm1⟩:=later _ hb (Nat.le_refl _)
 have hs1:=hq.lt
 have HQ:=Lib.hid hq
 have hm0:=Lib.hid (m1_made X1.w)
 clear hq hb
 go_wp2_with fail
 go_ret
 have hb1:Below X1.w.heap.size X1.w ((X1.w.alloc (.map #[] 0)).alloc (.cells #[.pointer (some ⟨w.heap.size,0,none⟩), .map (some X1.w.heap.size)] 158)):=((Below.refl _ _).alloc (Nat.le_refl _) _).alloc (by simp) _
 exact ⟨X1.w.heap.size+1,w.heap.size,X1.w.heap.size,rfl,Nat.le_refl _,⟨by go_simp,by go_simp,HQ.out.keep hb1,hm0.out.same (by
  have h9:Below (X1.w.alloc (.map #[] 0)).heap.size (X1.w.alloc (.map #[] 0)) ((X1.w.alloc (.map #[] 0)).alloc (.cells #[.pointer (some ⟨w.heap.size,0,none⟩), .map (some X1.w.heap.size)] 158)):=(Below.refl _ _).alloc (Nat.le_refl _) _
  exact h9.block _ (by simp)),⟨hs1,Nat.lt_succ_self _⟩,fun k hk=>by cases hk⟩,q9l⟩
theorem zero_seen (w:World):(zeroValue 48).run Tryz.prog w = .ok (.agg #[.int .i64 0, .int .i64 0, .int .i64 0, .int .i64 0, .int .i64 0, .int .i64 0]) w:=by kernel_rfl
set_option maxHeartbeats 16000000 in
theorem fput_first (f fq m cq:Nat) (C:Option Addr) (key id l a b c d:Int) (w:World) (h:Fd w f fq m 0 (fun _=>none) C 0 cq []) (hid:wf64 id):
  Calls Tryz.prog 41 #[.pointer (some ⟨f,0,none⟩), .int .u64 key, .agg #[.int .i64 id, .int .i64 l, .int .i64 a, .int .i64 b, .int .i64 c, .int .i64 d]] w fun e w'=>e = .returned (.tuple #[])∧∃ C' cq',Fd w' f fq m 1 (fun x=>if x=id then some (.agg #[.int .i64 id, .int .i64 l, .int .i64 a, .int .i64 b, .int .i64 c, .int .i64 d]) else none) C' 1 cq' [.int .u64 key, .int .u64 0, .int .i64 id]∧Chg (fun j=>j=m∨j=fq∨gP C j) w w'∧∀ j,gP C' j→gP C j∨w.heap.size≤j:=by
 have H:=Lib.hid h
 have c0:=h.c0
 have c1:=h.c1
 have hf:=h.lt
 have hm:=h.mp.lt
 have ho:=h.ord
 have hlk:=fun (W:World) (hW:W.heap[m]? = w.heap[m]?)=>(h.mp.same hW).lookOk (mt:=156) Tryz.underlying156 (zero_seen W) hid
 simp only [Option.getD_none,Option.isSome_none] at hlk
 obtain ⟨om,hom⟩:∃ o,w.heap[m]? = o:=⟨_,rfl⟩
 rw [hom] at hlk
 clear h
 go_enter Tryz.func41,Tryz.ntmps41
 go_wp2_with fail
 have hb0:Below w.heap.size w (w.alloc (.cells #[.int .i64 id, .int .i64 l, .int .i64 a, .int .i64 b, .int .i64 c, .int .i64 d] 48)).drew:=((Below.refl w.heap.size w).alloc (Nat.le_refl _) _).drew
 have hb1:Below w.heap.size w ((w.alloc (.cells #[.int .i64 id, .int .i64 l, .int .i64 a, .int .i64 b, .int .i64 c, .int .i64 d] 48)).drew.alloc (.cells #[.int .i64 0, .int .i64 0, .int .i64 0, .int .i64 0, .int .i64 0, .int .i64 0] 48)):=hb0.alloc (by simp) _
 have HS:(fun w'=>w'.heap[m]? = om∧w'.cell? ⟨f,1,none⟩=some (.map (some m))∧w'.cell? ⟨w.heap.size,0,none⟩=some (.int .i64 id)) (w.alloc (.cells #[.int .i64 id, .int .i64 l, .int .i64 a, .int .i64 b, .int .i64 c, .int .i64 d] 48)).drew:=⟨(hb0.block _ hm).trans hom,by go_simp,by go_simp⟩
 have HS1:(fun w'=>w'.heap[m]? = om∧w'.cell? ⟨f,1,none⟩=some (.map (some m))∧w'.cell? ⟨w.heap.size,0,none⟩=some (.int .i64 id)) ((w.alloc (.cells #[.int .i64 id, .int .i64 l, .int .i64 a, .int .i64 b, .int .i64 c, .int .i64 d] 48)).drew.alloc (.cells #[.int .i64 0, .int .i64 0, .int .i64 0, .int .i64 0, .int .i64 0, .int .i64 0] 48)):=⟨(hb1.block _ hm).trans hom,by go_simp,by go_simp⟩
 refine wp_region_early (fun w'=>w'.heap[m]? = om∧w'.cell? ⟨f,1,none⟩=some (.map (some m))∧w'.cell? ⟨w.heap.size,0,none⟩=some (.int .i64 id)) (fun _=>true) (by kernel_rfl) HS (fun HS=>?_)
 (refine q9t (i:=0) rfl HS ?_;(try simp only [Act.put,q9x,q9y,q9z]))
 (refine q9t (i:=1) rfl HS ?_;(try simp only [Act.put,q9x,q9y,q9z]))
 (refine q9t (i:=2) rfl HS ?_;(try simp only [Act.put,q9x,q9y,q9z]))
 (refine q9t (i:=3) rfl HS ?_;(try simp only [Act.put,q9x,q9y,q9z]))
 (refine q9t (i:=4) rfl HS ?_;(try simp only [Act.put,q9x,q9y,q9z]))
 (refine q9t (i:=5) rfl HS ?_;(try simp only [Act.put,q9x,q9y,q9z]))
 (refine q9t (i:=6) rfl HS ?_;(try simp only [Act.put,q9x,q9y,q9z]))
 (refine q9t (i:=7) rfl HS ?_;(try simp only [Act.put,q9x,q9y,q9z]))
 (refine q9t (i:=8) rfl HS ?_;(try simp only [Act.put,q9x,q9y,q9z]))
 (refine q9t (i:=9) rfl HS ?_;(try simp only [Act.put,q9x,q9y,q9z]))
 refine wpAnyE_one (i:=10) rfl (by kernel_rfl) ?_
 go_wp2_with fail
 refine ⟨HS1.1,?_⟩
 refine wpAnyE_one (i:=11) rfl (by kernel_rfl) ?_
 go_wp2_with fail
 first|refine ⟨fun _=>HS1,?_⟩|refine ⟨HS1.1,?_⟩
 refine wpAnyE_one (i:=12) rfl (by kernel_rfl) ?_
 go_wp2_with fail
 first|refine ⟨fun _=>HS1,?_⟩|refine ⟨HS1.1,?_⟩
 refine ⟨by kernel_rfl,?_⟩
 have HO:=Lib.hid hom
 clear hom hlk HS HS1 hb0 hb1
 go_wp2_with fail
 (refine wp_region_later_tail 7 (w.heap.size+2) (by kernel_rfl) (by kernel_rfl) (by go_size) ?_;simp only [List.take_succ_cons,List.take_zero,List.drop_succ_cons,List.drop_zero];(repeat (go_big_quiet_step (fail)));refine wpQuiet_nil ?_;intro Xq hlXq hmXq)
 have hbq:Below w.heap.size w Xq.w:=q9l
 obtain ⟨w9,hput,hM9,hg9⟩:=(H.out.mp.same (hbq.block _ hm)).put (by decide) (mt:=156) Tryz.underlying156 hid (.agg #[.int .i64 id, .int .i64 l, .int .i64 a, .int .i64 b, .int .i64 c, .int .i64 d])
 have hc9:Chg (fun j=>j=m) w w9:=(Chg.of (X:=fun j=>j=m) hbq).trans (Chg.ofGrown (X:=fun j=>j=m) hg9 (fun k hk=>by injection hk with hk;exact hk.symm)) (fun k hk => .inl hk)
 have hs9:=hg9.size
 have hsq:w.heap.size+2≤Xq.w.heap.size:=hlXq
 have e0:w9.cell? ⟨f,0,none⟩=some (.pointer (some ⟨fq,0,none⟩)):=(hc9.cell (p:=⟨f,0,none⟩) hf (by show ¬ f=m;omega)).trans c0
 have b0:w9.cell? ⟨w.heap.size,0,none⟩=some (.int .i64 id):=(hg9.cell_far ⟨w.heap.size,0,none⟩ (by show w.heap.size < _;omega) (fun e=>by injection e with e;have e':w.heap.size=m:=e;omega)).trans (by go_simp)
 have HQ:=Lib.hid (show Qu w9 fq C 0 cq []∧M1 w9 m 1 _∧Chg (fun j=>j=m) w w9∧w9.cell? ⟨f,1,none⟩=some (.map (some m)) from ⟨H.out.q.chg hc9 (by show ¬ fq=m;omega) (fun k hk e=>(H.out.far k hk).1 e),hM9,hc9,(hc9.cell (p:=⟨f,1,none⟩) hf (by show ¬ f=m;omega)).trans c1⟩)
 clear hM9 hg9 hc9
 go_wp2_with fail
 (refine wp_region_later_tail 8 (w9.heap.size) (by kernel_rfl) (by kernel_rfl) (by go_size) ?_;simp only [List.take_succ_cons,List.take_zero,List.drop_succ_cons,List.drop_zero];(repeat (go_big_quiet_step (fail)));refine wpQuiet_nil ?_;intro Xr hlXr hmXr)
 have hbr:Below w9.heap.size w9 Xr.w:=q9l
 go_wp2_with fail
 go_at_call 86
 refine (qpush_none fq cq C key 0 id _ (HQ.out.1.keep hbr)).mono ?_
 rintro e w2 ⟨rfl,C',cq',hq,hc,hC⟩
 have hsr:=hbr.size
 have hX:∀ j,(j=fq∨gP C j)→j≠m∧j≠f:=fun j hj=>hj.elim (fun e=>by omega) (fun e=>H.out.far j e)
 have hcr:Chg (fun j=>j=fq∨gP C j) w9 w2:=(Chg.of (X:=fun j=>j=fq∨gP C j) hbr).trans hc (fun k hk => .inl hk)
 have HE:=Lib.hid (show Fd w2 f fq m 1 _ C' 1 cq' _∧Chg (fun j=>j=m∨j=fq∨gP C j) w w2∧∀ j,gP C' j→gP C j∨w.heap.size≤j from ⟨⟨(hcr.cell (p:=⟨f,0,none⟩) (by show f < _;omega) (fun e=>(hX f e).2 rfl)).trans e0,(hcr.cell (p:=⟨f,1,none⟩) (by show f < _;omega) (fun e=>(hX f e).2 rfl)).trans HQ.out.2.2.2,hq,HQ.out.2.1.same (hcr.block m (by omega) (fun e=>(hX m e).1 rfl)),ho,fun k hk=>(hC k hk).elim (fun h9=>H.out.far k h9) (fun h9=>by omega)⟩,(HQ.out.2.2.1.mono (X':=fun j=>j=m∨j=fq∨gP C j) (fun k hk => .inl (.inl hk))).trans hcr (fun k hk => .inl (.inr hk)),fun j hj=>(hC j hj).elim .inl (fun e => .inr (by omega))⟩)
 clear hq hc hC hX hcr
 go_wp2_with fail
 refine bodyPost_end (v := .tuple #[]) (by first|rfl|kernel_rfl) rfl ?_
 exact ⟨rfl,C',cq',HE.out⟩
theorem cells_six_new (w:World) (a b c d e f:Value) (t:TypeId):∀ n u,([a,b,c,d,e,f]:List Value)[n]? = some u→(w.alloc (.cells #[a,b,c,d,e,f] t)).cell? ((⟨w.heap.size,0,none⟩:Addr).add n)=some u:=by
 intro n u hj
 match n,hj with
 | 0,hj|1,hj|2,hj|3,hj|4,hj|5,hj=>simp at hj;subst hj;simp [Addr.add]
set_option maxHeartbeats 16000000 in
theorem ffirst_one (f fq m cq:Nat) (C:Option Addr) (key id l a b c d:Int) (w:World) (h:Fd w f fq m 1 (fun x=>if x=id then some (.agg #[.int .i64 id, .int .i64 l, .int .i64 a, .int .i64 b, .int .i64 c, .int .i64 d]) else none) C 1 cq [.int .u64 key, .int .u64 0, .int .i64 id]) (hid:wf64 id):
  Calls Tryz.prog 42 #[.pointer (some ⟨f,0,none⟩), .int .i64 1] w fun e w'=>∃ A ca,e = .returned (.slice A 1 ca)∧w'.ownsRow w.heap.size 48 6 (.slice A 1 ca) 1 [.int .i64 id, .int .i64 l, .int .i64 a, .int .i64 b, .int .i64 c, .int .i64 d]∧Chg (fun j=>j=fq∨gP C j) w w':=by
 obtain ⟨i0,hi,hz0,hz1,hz2⟩:=info_parts (show (Tryz.prog.info? 48).map (fun i=>(i.zero,i.size,i.bytes))=some (some (.agg #[.int .i64 0, .int .i64 0, .int .i64 0, .int .i64 0, .int .i64 0, .int .i64 0]),6,48) by kernel_rfl)
 have PD:=Lib.hid (qdrain_one fq cq C key 0 id w h.q)
 have H:=Lib.hid h
 have c0:=h.c0
 have c1:=h.c1
 have hf:=h.lt
 have hm:=h.mp.lt
 have ho:=h.ord
 clear h
 go_enter Tryz.func42,Tryz.ntmps42
 go_wp2_with fail
 refine PD.out.mono ?_
 rintro e w1 ⟨A1,ca1,rfl,hown1,hc1⟩
 obtain ⟨g1,cap1,hv1,hlo1,hgl1⟩:=hown1.form (by omega)
 have hA1:A1=some ⟨g1,0,none⟩:=by injection hv1
 subst hA1
 have e0:=hown1.cells (g:=g1) rfl 0 _ rfl
 have e1:=hown1.cells (g:=g1) rfl 1 _ rfl
 have e2:=hown1.cells (g:=g1) rfl 2 _ rfl
 rw [Addr.add_lit] at e0 e1 e2
 simp only [Nat.zero_add] at e0 e1 e2
 have hs1:=hc1.size
 have hX:∀ j,(j=fq∨gP C j)→j≠m∧j≠f:=fun j hj=>hj.elim (fun e=>by omega) (fun e=>H.out.far j e)
 have f1:w1.cell? ⟨f,1,none⟩=some (.map (some m)):=(hc1.cell (p:=⟨f,1,none⟩) hf (fun e=>(hX f e).2 rfl)).trans c1
 have hm1:M1 w1 m 1 (fun x=>if x=id then some (.agg #[.int .i64 id, .int .i64 l, .int .i64 a, .int .i64 b, .int .i64 c, .int .i64 d]) else none):=H.out.mp.chg hc1 (fun e=>(hX m e).1 rfl)
 have hlk:=fun (W:World) (hW:W.heap[m]? = w1.heap[m]?)=>(hm1.same hW).look (mt:=156) Tryz.underlying156 (zero_seen W) hid
 simp only [if_true,Option.getD_some] at hlk
 obtain ⟨om,hom⟩:∃ o,w1.heap[m]? = o:=⟨_,rfl⟩
 rw [hom] at hlk
 have HC:=Lib.hid hc1
 have hml:m < w1.heap.size:=by omega
 have hfl:f < w1.heap.size:=by omega
 clear hown1 hv1 hc1 hX hm1
 go_wp2_with fail
 go_loopw [5,15] (fun o i wr=>∃ n:Nat,n≤1∧i = .int .i64 n∧Hid ((n=0→o = .slice none 0 0∧wr=w1)∧(n=1→∃ A ca,o = .slice A 1 ca∧wr.ownsRow w.heap.size 48 6 (.slice A 1 ca) 1 [.int .i64 id, .int .i64 l, .int .i64 a, .int .i64 b, .int .i64 c, .int .i64 d]∧Chg (fun j=>j=fq∨gP C j) w wr))) (fun _ i _=>1 - (intOf i).toNat)
 case atStart=>exact ⟨0,by decide,rfl,⟨fun _=>⟨rfl,rfl⟩,fun e=>by cases e⟩⟩
 case round=>
  obtain ⟨n,hn,rfl,hrel⟩:=hrel
  match n,hn with
  | 0,_=>
   obtain ⟨rfl,rfl⟩:=hrel.out.1 rfl
   clear hrel hn
   go_wp2_with fail
   have hbE:Below wr.heap.size wr (wr.alloc (.cells #[.int .u64 key, .int .u64 0, .int .i64 id] 165)).drew:=((Below.refl wr.heap.size wr).alloc (Nat.le_refl _) _).drew
   have HS:(fun w'=>w'.heap[m]? = om∧w'.cell? ⟨f,1,none⟩=some (.map (some m))∧w'.cell? ⟨wr.heap.size,2,none⟩=some (.int .i64 id)) (wr.alloc (.cells #[.int .u64 key, .int .u64 0, .int .i64 id] 165)).drew:=⟨(hbE.block _ hml).trans hom,by go_simp,by go_simp⟩
   refine wp_region_early (fun w'=>w'.heap[m]? = om∧w'.cell? ⟨f,1,none⟩=some (.map (some m))∧w'.cell? ⟨wr.heap.size,2,none⟩=some (.int .i64 id)) (fun j=>decide (j < 10)) (by kernel_rfl) HS (fun HS=>?_)
   (refine q9t (i:=0) rfl HS ?_;(try simp only [Act.put,q9x,q9y,q9z]))
   (refine q9t (i:=1) rfl HS ?_;(try simp only [Act.put,q9x,q9y,q9z]))
   (refine q9t (i:=2) rfl HS ?_;(try simp only [Act.put,q9x,q9y,q9z]))
   (refine q9t (i:=3) rfl HS ?_;(try simp only [Act.put,q9x,q9y,q9z]))
   (refine q9t (i:=4) rfl HS ?_;(try simp only [Act.put,q9x,q9y,q9z]))
   (refine q9t (i:=5) rfl HS ?_;(try simp only [Act.put,q9x,q9y,q9z]))
   (refine q9t (i:=6) rfl HS ?_;(try simp only [Act.put,q9x,q9y,q9z]))
   (refine q9t (i:=7) rfl HS ?_;(try simp only [Act.put,q9x,q9y,q9z]))
   refine wpAnyE_one (i:=8) rfl (by kernel_rfl) ?_
   go_wp2_with fail
   have hbF:Below wr.heap.size wr ((wr.alloc (.cells #[.int .u64 key, .int .u64 0, .int .i64 id] 165)).drew.alloc (.cells #[.int .i64 id, .int .i64 l, .int .i64 a, .int .i64 b, .int .i64 c, .int .i64 d] 48)):=hbE.alloc (by simp) _
   have HS8:(fun w'=>w'.heap[m]? = om∧w'.cell? ⟨f,1,none⟩=some (.map (some m))∧w'.cell? ⟨wr.heap.size,2,none⟩=some (.int .i64 id)) ((wr.alloc (.cells #[.int .u64 key, .int .u64 0, .int .i64 id] 165)).drew.alloc (.cells #[.int .i64 id, .int .i64 l, .int .i64 a, .int .i64 b, .int .i64 c, .int .i64 d] 48)):=⟨(hbF.block _ hml).trans hom,by go_simp,by go_simp⟩
   first|refine ⟨fun _=>HS8,?_⟩|refine ⟨HS8.1,?_⟩|skip
   refine wpAnyE_one (i:=9) rfl (by kernel_rfl) ?_
   refine wpList_append_own_at _ rfl _ _ 56 rfl w.heap.size 48 i0 (.agg #[.int .i64 0, .int .i64 0, .int .i64 0, .int .i64 0, .int .i64 0, .int .i64 0]) 6 48 Tryz.underlying56 hi hz0 hz1 hz2 rfl (by decide) (.slice none 0 0) 0 _ (by rfl) (World.ownsRow_nil _ _ _ _) ⟨wr.heap.size+1,0,none⟩ 1 1 [.int .i64 id, .int .i64 l, .int .i64 a, .int .i64 b, .int .i64 c, .int .i64 d] (by rfl) (by rfl) (by
    have h9:=cells_six_new (wr.alloc (.cells #[.int .u64 key, .int .u64 0, .int .i64 id] 165)).drew (.int .i64 id) (.int .i64 l) (.int .i64 a) (.int .i64 b) (.int .i64 c) (.int .i64 d) 48
    have e9:(wr.alloc (.cells #[.int .u64 key, .int .u64 0, .int .i64 id] 165)).drew.heap.size=wr.heap.size+1:=by simp
    rw [e9] at h9
    exact h9) (by intro u hu;simp at hu;rcases hu with rfl|rfl|rfl|rfl|rfl|rfl <;> rfl) (by unfold maxLen;omega) (by omega) (by simp;omega) ?_
   intro v3 w9 hown3 hgrow3 _ hat3
   obtain ⟨A3,k3,rfl⟩:=own_formN hown3
   have hb9:Below wr.heap.size wr w9:=Below.grown hbF hgrow3 (by simp;omega) (fun k hk=>by cases hk)
   have q9:∀ p:Addr,p.block < wr.heap.size+2→w9.cell? p=((wr.alloc (.cells #[.int .u64 key, .int .u64 0, .int .i64 id] 165)).drew.alloc (.cells #[.int .i64 id, .int .i64 l, .int .i64 a, .int .i64 b, .int .i64 c, .int .i64 d] 48)).cell? p:=fun p hp=>hgrow3.cell_far p (by simp;omega) (fun e=>by cases e)
   have HS9:(fun w'=>w'.heap[m]? = om∧w'.cell? ⟨f,1,none⟩=some (.map (some m))∧w'.cell? ⟨wr.heap.size,2,none⟩=some (.int .i64 id)) w9:=⟨(hb9.block _ hml).trans hom,(q9 ⟨f,1,none⟩ (by show f < _;omega)).trans (by go_simp),(q9 ⟨wr.heap.size,2,none⟩ (by show wr.heap.size < _;omega)).trans (by go_simp)⟩
   first|refine ⟨fun _=>HS9,?_⟩|skip
   have HE:=Lib.hid (show w9.ownsRow w.heap.size 48 6 (.slice A3 1 k3) 1 [.int .i64 id, .int .i64 l, .int .i64 a, .int .i64 b, .int .i64 c, .int .i64 d]∧Chg (fun j=>j=fq∨gP C j) w w9 from ⟨hown3,HC.out.trans (Chg.of (X:=fun _=>False) hb9) (fun j hj=>hj.elim)⟩)
   clear hown3 hgrow3 q9 HS HS8 HS9 hat3 hb9 hbF hbE hom hlk
   refine wpAnyE_rest (k:=10) rfl (by kernel_rfl) (fun j hj=>by simp;omega) ?_
   simp only [List.drop_succ_cons,List.drop_zero]
   go_wp2_with fail
   go_roundw
   case rel=>exact ⟨1,by decide,by go_num,⟨fun e=>(by cases e),fun _=>⟨A3,k3,rfl,HE.out⟩⟩⟩
   case measure=>show 1 - 1 < 1 - 0;decide
  | 1,_=>
   obtain ⟨A,ca,rfl,hown,hc⟩:=hrel.out.2 rfl
   have HE:=Lib.hid (And.intro hown hc)
   clear hrel hown hc
   go_wp2_with fail
   go_ret
   exact ⟨A,ca,rfl,HE.out⟩
end Go.Proofs.YthlijfligikciaaGreat
namespace Go.Proofs.YthlijfligikciaaGreat
open Go.RowKit Go.Maps
set_option linter.unusedSimpArgs false
set_option linter.unusedVariables false
set_option maxRecDepth 4000
structure Sn where
 id:Int
 lv:Int
 a:Int
 b:Int
 c:Int
 d:Int
def sn0:Sn:=⟨0,0,0,0,0,0⟩
def eqN (x y:Sn):Bool:=decide (x.id=y.id∧x.lv=y.lv∧x.a=y.a∧x.b=y.b∧x.c=y.c∧x.d=y.d)
theorem eqN_iff {x y:Sn}:eqN x y=true↔x=y:=by
 unfold eqN
 rw [decide_eq_true_eq]
 constructor
 ·rintro ⟨a,b,c,d⟩;cases x;cases y;simp_all
 ·rintro rfl;simp
instance:DecidableEq Sn:=fun a b=>decidable_of_iff (eqN a b=true) eqN_iff
def Sns (w:World) (B:Nat) (A:Option Addr) (L:List Sn):Prop:=0 < L.length→∃ b o,A=some ⟨b,o,none⟩∧b < B∧∀ i,i < L.length→
 w.cell? ⟨b,o+i*6,none⟩=some (.int .i64 (L.getD i sn0).id)∧w.cell? ⟨b,o+i*6+1,none⟩=some (.int .i64 (L.getD i sn0).lv)∧w.cell? ⟨b,o+i*6+2,none⟩=some (.int .i64 (L.getD i sn0).a)∧w.cell? ⟨b,o+i*6+3,none⟩=some (.int .i64 (L.getD i sn0).b)∧w.cell? ⟨b,o+i*6+4,none⟩=some (.int .i64 (L.getD i sn0).c)∧w.cell? ⟨b,o+i*6+5,none⟩=some (.int .i64 (L.getD i sn0).d)
theorem Sns.keep {w w':World} {B:Nat} {A:Option Addr} {L:List Sn} (h:Sns w B A L) (hb:Below B w w'):Sns w' B A L:=fun hn=>by
 obtain ⟨b,o,rfl,hlt,hc⟩:=h hn
 have e:∀ j,w'.cell? ⟨b,j,none⟩=w.cell? ⟨b,j,none⟩:=fun j=>hb.cell (p:=⟨b,j,none⟩) hlt
 refine ⟨b,o,rfl,hlt,fun i hi=>?_⟩
 obtain ⟨h0,h1,h2,h3,h4,h5⟩:=hc i hi
 exact ⟨(e _).trans h0,(e _).trans h1,(e _).trans h2,(e _).trans h3,(e _).trans h4,(e _).trans h5⟩
theorem Sns.more {w:World} {B B':Nat} {A:Option Addr} {L:List Sn} (h:Sns w B A L) (hb:B≤B'):Sns w B' A L:=fun hn=>by
 obtain ⟨b,o,rfl,hlt,hc⟩:=h hn
 exact ⟨b,o,rfl,Nat.lt_of_lt_of_le hlt hb,hc⟩
theorem sns_at {w:World} {B i:Nat} {A:Option Addr} {L:List Sn} (h:Sns w B A L) (hi:i < L.length):∃ b o,A=some ⟨b,o,none⟩∧b < B∧
 w.cell? ⟨b,o+i*6,none⟩=some (.int .i64 (L.getD i sn0).id)∧w.cell? ⟨b,o+i*6+1,none⟩=some (.int .i64 (L.getD i sn0).lv)∧w.cell? ⟨b,o+i*6+2,none⟩=some (.int .i64 (L.getD i sn0).a)∧w.cell? ⟨b,o+i*6+3,none⟩=some (.int .i64 (L.getD i sn0).b)∧w.cell? ⟨b,o+i*6+4,none⟩=some (.int .i64 (L.getD i sn0).c)∧w.cell? ⟨b,o+i*6+5,none⟩=some (.int .i64 (L.getD i sn0).d):=by
 obtain ⟨b,o,e,hlt,hc⟩:=h (by omega)
 exact ⟨b,o,e,hlt,hc i hi⟩
theorem getN_lt {L:List Sn} {i:Nat} (h:i < L.length):L.getD i sn0=L[i]:=by simp [List.getD,List.getElem?_eq_getElem h]
theorem eqIn_seen (x y:Sn) (w:World):(Op.equalIn 10000 48 (.agg #[.int .i64 x.id, .int .i64 x.lv, .int .i64 x.a, .int .i64 x.b, .int .i64 x.c, .int .i64 x.d]) (.agg #[.int .i64 y.id, .int .i64 y.lv, .int .i64 y.a, .int .i64 y.b, .int .i64 y.c, .int .i64 y.d])).run Tryz.prog w = .ok (eqN x y) w:=by
 have hS:Tryz.prog.underlying 48=some (.struct (Tryz.prog.fieldsOf 48)):=by kernel_rfl
 have hp:Tryz.prog.stoodInHeld 48=false:=by kernel_rfl
 obtain ⟨id,lv,a,b,c,d⟩:=x
 obtain ⟨id',lv',a',b',c',d'⟩:=y
 rw [show (10000:Nat)=9999+1 from rfl,run_equalIn_agg w 9999 48 _ _ hS hp]
 unfold eqN
 simp only [Program.fieldsOf,Tryz.underlying48]
 clear hS hp
 go_simp
 repeat' split
 all_goals simp_all
theorem neq_seen (x y:Sn) (w:World):(binOp .neq 48 (.agg #[.int .i64 x.id, .int .i64 x.lv, .int .i64 x.a, .int .i64 x.b, .int .i64 x.c, .int .i64 x.d]) (.agg #[.int .i64 y.id, .int .i64 y.lv, .int .i64 y.a, .int .i64 y.b, .int .i64 y.c, .int .i64 y.d])).run Tryz.prog w = .ok (.bool (!eqN x y)) w:=by
 rw [run_neq_struct,eqIn_seen]
 rfl
set_option maxHeartbeats 8000000 in
theorem same_any (n1 n2 c1 c2:Nat) (C1 C2:Option Addr) (L M:List Sn) (w:World) (h1:Sns w w.heap.size C1 L) (h2:Sns w w.heap.size C2 M) (hn1:L.length=n1) (hn2:M.length=n2) (hb:n1≤1000000000):
  Calls Tryz.prog 15 #[.slice C1 n1 c1, .slice C2 n2 c2] w fun e w'=>e = .returned (.bool (decide (L=M)))∧Below w.heap.size w w':=by
 by_cases hne:n1=n2
 ·subst hne
  have HA:=Lib.hid h1
  have HB:=Lib.hid h2
  have HN:=Lib.hid (show L.length=n1∧M.length=n1 from ⟨hn1,hn2⟩)
  clear h1 h2 hn1 hn2
  obtain ⟨R,hR⟩:∃ R,decide (L=M)=R:=⟨_,rfl⟩
  have HR:=Lib.hid hR
  rw [hR]
  clear hR
  go_enter Tryz.func15,Tryz.ntmps15
  go_wp2
  go_loopw [5] (fun i wr=>∃ k:Nat,(k≤n1∧Hid (∀ j,j < k→L.getD j sn0=M.getD j sn0))∧i = .int .i64 k∧Below w.heap.size w wr) (fun i _=>n1 - (intOf i).toNat)
  case atStart=>exact ⟨0,⟨Nat.zero_le _,fun j hj=>absurd hj (by omega)⟩,rfl,q9o⟩
  case round=>
   obtain ⟨k,⟨hk,hall⟩,rfl,hb⟩:=hrel
   obtain ⟨X,rfl⟩:∃ X:Later w.heap.size w,wr=X.w:=⟨⟨wr,hb⟩,rfl⟩
   by_cases hlt:k < n1
   ·obtain ⟨b,o,hA,hB,c0,c1',c2',c3,c4,c5⟩:=sns_at (HA.out.keep hb) (show k < L.length by rw [HN.out.1];exact hlt)
    obtain ⟨b',o',hA',hB',d0,d1,d2,d3,d4,d5⟩:=sns_at (HB.out.keep hb) (show k < M.length by rw [HN.out.2];exact hlt)
    subst hA hA'
    clear hb
    obtain ⟨x,hx⟩:∃ x,L.getD k sn0=x:=⟨_,rfl⟩
    obtain ⟨y,hy⟩:∃ y,M.getD k sn0=y:=⟨_,rfl⟩
    have hno:x≠y→R=false:=fun he=>by
     rw [← HR.out,decide_eq_false_iff_not]
     rintro rfl
     exact he (by rw [← hx,← hy])
    have hnx:x=y→∀ j,j < k+1→L.getD j sn0=M.getD j sn0:=fun he j hj=>by
     rcases Nat.lt_or_eq_of_le (Nat.le_of_lt_succ hj) with h|rfl
     ·exact hall.out j h
     ·rw [hx,hy,he]
    rw [hx] at c0 c1' c2' c3 c4 c5
    rw [hy] at d0 d1 d2 d3 d4 d5
    have heq:=eqN_iff (x:=x) (y:=y)
    have HQ:=neq_seen x y
    obtain ⟨d,hd⟩:∃ d,eqN x y=d:=⟨_,rfl⟩
    rw [hd] at heq HQ
    cases d with
    | true=>
     have HNX:=Lib.hid (hnx (heq.1 rfl))
     clear hno hnx hx hy heq hd
     go_wp2
     go_quiet (fail)
     go_wp2
     go_roundw
     case rel=>exact ⟨k+1,⟨by omega,HNX.out⟩,by go_num,q9l⟩
     case measure=>simp [intOf];omega
    | false=>
     obtain rfl:R=false:=hno (fun he=>by have:=heq.2 he;cases this)
     clear hno hnx hx hy heq hd
     go_wp2
     go_quiet (fail)
     go_wp2
     go_ret
     exact ⟨rfl,q9l⟩
   ·obtain rfl:k=n1:=by omega
    obtain rfl:R=true:=by
     rw [← HR.out,decide_eq_true_eq]
     refine List.ext_getElem (by rw [HN.out.1,HN.out.2]) fun i hi1 hi2=>?_
     have:=hall.out i (by rw [← HN.out.1];exact hi1)
     rwa [getN_lt hi1,getN_lt hi2] at this
    clear hb
    go_wp2
    go_ret
    exact ⟨rfl,q9l⟩
 ·have hR:decide (L=M)=false:=by
   rw [decide_eq_false_iff_not]
   rintro rfl
   exact hne (hn1.symm.trans hn2)
  rw [hR]
  have hne':((n1:Int) == (n2:Int))=false:=by rw [beq_eq_false_iff_ne];omega
  clear h1 h2 hn1 hn2 hR hne
  go_enter Tryz.func15,Tryz.ntmps15
  go_wp2
  go_ret
  exact ⟨rfl,q9o⟩
def wideG:Gr:=⟨31,16,0,0,65535,65535,false,9⟩
theorem wide_any (w:World):Calls Tryz.prog 17 #[] w fun e w'=>e = .returned (.agg #[.int .i64 wideG.ops, .int .i64 wideG.zoom, .int .i64 wideG.a, .int .i64 wideG.b, .int .i64 wideG.c, .int .i64 wideG.d, .bool wideG.void, .int .i64 wideG.til])∧Below w.heap.size w w':=by
 unfold wideG
 go_enter Tryz.func17,Tryz.ntmps17
 go_wp2
 refine bodyPost_ret (by simp only [results,Tryz.results17];go_simp;all_goals (first|rfl|simp [sel])) rfl ⟨rfl,q9o⟩
end Go.Proofs.YthlijfligikciaaGreat
