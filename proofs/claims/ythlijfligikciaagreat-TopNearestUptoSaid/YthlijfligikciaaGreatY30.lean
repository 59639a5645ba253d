/- A part of one proof: SnF. No condition. -/
import Derived.Test.YthlijfligikciaaGreatY29
namespace Go.Proofs.YthlijfligikciaaGreat
open Go.RowKit Go.Maps
set_option linter.unusedSimpArgs false
set_option linter.unusedVariables false
set_option maxRecDepth 2000
set_option maxHeartbeats 16000000 in
theorem nearest_first (G:Nat→Prop) (lo qt bt kt:Nat) (L:List Rl) (Pp Pc:Option Addr) (role tier id x y label z:Int) (g:Gr) (wb vb zb:Nat) (q s cc cd bd:Nat) (C D:Option Addr) (px py lv:Int) (w:World) (ht:Tb w lo qt bt kt L G) (hgw:∀ x,G x→x < w.heap.size) (hkt:kt+1 < 1000000) (hcnt:cntB L≤1048576) (hn1:L.length≤1000000) (hw:Wb w wb Pp Pc qt) (hv:Vb w vb role tier g) (hz:w.cell? ⟨zb,0,none⟩=some (.int .i64 z)) (hne:wb≠bt∧vb≠bt∧zb≠bt)
  (hkeep:(seeB L role tier g x y label && (zoomT L role tier label x y == z))=true) (hlv:0≤lv∧lv≤16) (hf:fitsB x y=true) (hpf:fitsB px py=true) (hp:Pt1 w s q C cc 1 (.slice D 1 cd)) (hD:w.ownsRow bd 32 4 (.slice D 1 cd) 1 [.int .i64 id, .int .i64 x, .int .i64 y, .int .i64 label]) (hm:M1 w s 1 (fun k=>if k=id then some (.agg #[.int .i64 id, .int .i64 x, .int .i64 y, .int .i64 label]) else none)) (hid:wf64 id) (hqb:q≠bt∧s≠bt∧(∀ k,gP C k→k≠bt)∧∀ k,gP D k→k≠bt):
  Calls Tryz.prog 45 #[.pointer (some ⟨q,0,none⟩), .agg #[.int .i64 px, .int .i64 py], .int .i64 1, .int .i64 lv,(.func (.func 44) #[] #[.pointer (some ⟨wb,0,none⟩), .pointer (some ⟨vb,0,none⟩), .pointer (some ⟨zb,0,none⟩)])] w fun e w'=>∃ A ca,e = .returned (.slice A 1 ca)∧w'.ownsRow w.heap.size 32 4 (.slice A 1 ca) 1 [.int .i64 id, .int .i64 x, .int .i64 y, .int .i64 label]∧Tb w' lo qt bt (kt+2) L G∧Chg (fun j=>j=bt) w w':=by
 obtain ⟨i0,hi,hz0,hz1,hz2⟩:=info_parts (show (Tryz.prog.info? 32).map (fun i=>(i.zero,i.size,i.bytes))=some (some (.agg #[.int .i64 0, .int .i64 0, .int .i64 0, .int .i64 0]),4,32) by kernel_rfl)
 have PM:=Lib.hid (fun (Y:World) (hY:Below w.heap.size w Y)=>pmade_any q 1 cc C Y ((hY.cell (p:=⟨q,1,none⟩) hp.lt).trans hp.c1) (by decide))
 have pf:=fun (Y:World)=>fits_any px py Y
 rw [hpf] at pf
 have PF:=Lib.hid pf
 have PQ:=Lib.hid (fun (Y:World)=>qnew_any Y)
 have hd0:decide (lv < 0)=false:=decide_eq_false (by omega)
 have hd1:decide (16 < lv)=false:=decide_eq_false (by omega)
 have H:=Lib.hid (show (Tb w lo qt bt kt L G∧∀ x,G x→x < w.heap.size)∧(kt+1 < 1000000∧cntB L≤1048576∧L.length≤1000000)∧(Wb w wb Pp Pc qt∧Vb w vb role tier g∧w.cell? ⟨zb,0,none⟩=some (.int .i64 z))∧(seeB L role tier g x y label && (zoomT L role tier label x y == z))=true∧((0≤lv∧lv≤16)∧fitsB x y=true)∧(Pt1 w s q C cc 1 (.slice D 1 cd)∧w.ownsRow bd 32 4 (.slice D 1 cd) 1 [.int .i64 id, .int .i64 x, .int .i64 y, .int .i64 label]∧M1 w s 1 (fun k=>if k=id then some (.agg #[.int .i64 id, .int .i64 x, .int .i64 y, .int .i64 label]) else none))∧(wb≠bt∧vb≠bt∧zb≠bt)∧(q≠bt∧s≠bt∧(∀ k,gP C k→k≠bt)∧∀ k,gP D k→k≠bt) from ⟨⟨ht,hgw⟩,⟨hkt,hcnt,hn1⟩,⟨hw,hv,hz⟩,hkeep,⟨hlv,hf⟩,⟨hp,hD,hm⟩,hne,hqb⟩)
 have hbl:=ht.ltb
 have hql:=hp.lt
 have hls:=hp.ls
 clear pf ht hgw hkt hcnt hn1 hw hv hz hne hkeep hlv hf hpf hp hD hm hqb
 go_enter Tryz.func45,Tryz.ntmps45
 go_wp2_with fail
 go_step3
 go_wp2_with (first
  | (go_at_call 58;refine (PM.out _ q9l).mono ?_;rintro e w' ⟨rfl,hb⟩;obtain ⟨X1,rfl,hl1,hm1⟩:=later _ hb (Nat.le_refl _);clear hb;(try simp only [q9A,q9B,q9D] at hm1 hl1))
  | (go_at_call 10;refine (PF.out _).mono ?_;rintro e w' ⟨rfl,hb⟩;obtain ⟨X2,rfl,hl2,hm2⟩:=later _ hb (Nat.le_refl _);clear hb;(try simp only [q9A,q9B,q9D] at hm2 hl2)))
 have hb2:Below w.heap.size w X2.w:=q9l
 have hs2:w.heap.size+1≤X2.w.heap.size:=by go_size
 have HS:(fun w'=>w'.cell? ⟨w.heap.size,0,none⟩=some (.int .i64 px)∧w'.cell? ⟨w.heap.size,1,none⟩=some (.int .i64 py)) X2.w.drew:=⟨by go_simp,by go_simp⟩
 refine wp_region_early (fun w'=>w'.cell? ⟨w.heap.size,0,none⟩=some (.int .i64 px)∧w'.cell? ⟨w.heap.size,1,none⟩=some (.int .i64 py)) (fun _=>true) (by kernel_rfl) HS (fun HS=>?_)
 (refine q9t (i:=0) rfl HS ?_;(try simp only [Act.put,q9x,q9y,q9z]))
 (refine q9t (i:=1) rfl HS ?_;(try simp only [Act.put,q9x,q9y,q9z]))
 (refine q9t (i:=2) rfl HS ?_;(try simp only [Act.put,q9x,q9y,q9z]))
 (refine q9t (i:=3) rfl HS ?_;(try simp only [Act.put,q9x,q9y,q9z]))
 refine wpAnyE_one (i:=4) rfl (by kernel_rfl) ?_
 go_wp2_with fail
 go_at_call 81
 refine (PQ.out _).mono ?_
 rintro e w3 ⟨rfl,hq3,hb3⟩
 simp only [World.size_drew] at hq3 hb3 ⊢
 have hb3':Below w.heap.size w w3:=hb2.drew.trans (hb3.mono hb2.size)
 have HS3:(fun w'=>w'.cell? ⟨w.heap.size,0,none⟩=some (.int .i64 px)∧w'.cell? ⟨w.heap.size,1,none⟩=some (.int .i64 py)) w3:=⟨(hb3.cell (p:=⟨w.heap.size,0,none⟩) (by show w.heap.size < _;omega)).trans (by go_simp),(hb3.cell (p:=⟨w.heap.size,1,none⟩) (by show w.heap.size < _;omega)).trans (by go_simp)⟩
 have hqs:=hq3.lt
 have HB3:=Lib.hid (And.intro hb3' hq3)
 obtain ⟨sq,hsq⟩:∃ n,X2.w.heap.size=n:=⟨_,rfl⟩
 rw [hsq] at HB3 hs2 hqs ⊢
 have HSQ:=Lib.hid hsq
 clear hsq hb3 hb3' hq3 hb2
 go_wp2_with fail
 first|refine ⟨fun _=>HS3,?_⟩|skip
 refine wpAnyE_one (i:=5) rfl (by kernel_rfl) ?_
 go_wp2_with fail
 first|refine ⟨fun _=>HS3,?_⟩|skip
 refine wpAnyE_one (i:=6) rfl (by kernel_rfl) ?_
 go_wp2_with fail
 have HS4:(fun w'=>w'.cell? ⟨w.heap.size,0,none⟩=some (.int .i64 px)∧w'.cell? ⟨w.heap.size,1,none⟩=some (.int .i64 py)) (w3.alloc (.cells #[.pointer (some ⟨q,0,none⟩), .int .i64 px, .int .i64 py, .int .i64 lv,(.func (.func 44) #[] #[.pointer (some ⟨wb,0,none⟩), .pointer (some ⟨vb,0,none⟩), .pointer (some ⟨zb,0,none⟩)]), .pointer (some ⟨sq,0,none⟩)] 170)):=⟨by go_simp,by go_simp⟩
 refine ⟨fun _=>HS4,?_⟩
 refine wpAnyE_one (i:=7) rfl (by kernel_rfl) ?_
 go_wp2_with fail
 first|refine ⟨fun _=>HS4,?_⟩|skip
 refine ⟨by kernel_rfl,?_⟩
 have hk0:(w3.alloc (.cells #[.pointer (some ⟨q,0,none⟩), .int .i64 px, .int .i64 py, .int .i64 lv,(.func (.func 44) #[] #[.pointer (some ⟨wb,0,none⟩), .pointer (some ⟨vb,0,none⟩), .pointer (some ⟨zb,0,none⟩)]), .pointer (some ⟨sq,0,none⟩)] 170)).cell? ⟨w3.heap.size,0,none⟩=some (.pointer (some ⟨q,0,none⟩)):=by go_simp
 have hk1:(w3.alloc (.cells #[.pointer (some ⟨q,0,none⟩), .int .i64 px, .int .i64 py, .int .i64 lv,(.func (.func 44) #[] #[.pointer (some ⟨wb,0,none⟩), .pointer (some ⟨vb,0,none⟩), .pointer (some ⟨zb,0,none⟩)]), .pointer (some ⟨sq,0,none⟩)] 170)).cell? ⟨w3.heap.size,1,none⟩=some (.int .i64 px):=by go_simp
 have hk2:(w3.alloc (.cells #[.pointer (some ⟨q,0,none⟩), .int .i64 px, .int .i64 py, .int .i64 lv,(.func (.func 44) #[] #[.pointer (some ⟨wb,0,none⟩), .pointer (some ⟨vb,0,none⟩), .pointer (some ⟨zb,0,none⟩)]), .pointer (some ⟨sq,0,none⟩)] 170)).cell? ⟨w3.heap.size,2,none⟩=some (.int .i64 py):=by go_simp
 have hk3:(w3.alloc (.cells #[.pointer (some ⟨q,0,none⟩), .int .i64 px, .int .i64 py, .int .i64 lv,(.func (.func 44) #[] #[.pointer (some ⟨wb,0,none⟩), .pointer (some ⟨vb,0,none⟩), .pointer (some ⟨zb,0,none⟩)]), .pointer (some ⟨sq,0,none⟩)] 170)).cell? ⟨w3.heap.size,3,none⟩=some (.int .i64 lv):=by go_simp
 have hk4:(w3.alloc (.cells #[.pointer (some ⟨q,0,none⟩), .int .i64 px, .int .i64 py, .int .i64 lv,(.func (.func 44) #[] #[.pointer (some ⟨wb,0,none⟩), .pointer (some ⟨vb,0,none⟩), .pointer (some ⟨zb,0,none⟩)]), .pointer (some ⟨sq,0,none⟩)] 170)).cell? ⟨w3.heap.size,4,none⟩=some (.func (.func 44) #[] #[.pointer (some ⟨wb,0,none⟩), .pointer (some ⟨vb,0,none⟩), .pointer (some ⟨zb,0,none⟩)]):=by go_simp
 have hk5:(w3.alloc (.cells #[.pointer (some ⟨q,0,none⟩), .int .i64 px, .int .i64 py, .int .i64 lv,(.func (.func 44) #[] #[.pointer (some ⟨wb,0,none⟩), .pointer (some ⟨vb,0,none⟩), .pointer (some ⟨zb,0,none⟩)]), .pointer (some ⟨sq,0,none⟩)] 170)).cell? ⟨w3.heap.size,5,none⟩=some (.pointer (some ⟨sq,0,none⟩)):=by go_simp
 have HB4:=Lib.hid (show Below w.heap.size w (w3.alloc (.cells #[.pointer (some ⟨q,0,none⟩), .int .i64 px, .int .i64 py, .int .i64 lv,(.func (.func 44) #[] #[.pointer (some ⟨wb,0,none⟩), .pointer (some ⟨vb,0,none⟩), .pointer (some ⟨zb,0,none⟩)]), .pointer (some ⟨sq,0,none⟩)] 170))∧Sk (w3.alloc (.cells #[.pointer (some ⟨q,0,none⟩), .int .i64 px, .int .i64 py, .int .i64 lv,(.func (.func 44) #[] #[.pointer (some ⟨wb,0,none⟩), .pointer (some ⟨vb,0,none⟩), .pointer (some ⟨zb,0,none⟩)]), .pointer (some ⟨sq,0,none⟩)] 170)) w3.heap.size q sq px py lv (.func (.func 44) #[] #[.pointer (some ⟨wb,0,none⟩), .pointer (some ⟨vb,0,none⟩), .pointer (some ⟨zb,0,none⟩)])∧Qu (w3.alloc (.cells #[.pointer (some ⟨q,0,none⟩), .int .i64 px, .int .i64 py, .int .i64 lv,(.func (.func 44) #[] #[.pointer (some ⟨wb,0,none⟩), .pointer (some ⟨vb,0,none⟩), .pointer (some ⟨zb,0,none⟩)]), .pointer (some ⟨sq,0,none⟩)] 170)) sq none 0 0 [] from ⟨HB3.out.1.alloc HB3.out.1.size _,⟨hk0,hk1,hk2,hk3,hk4,hk5⟩,HB3.out.2.alloc _⟩)
 have hs4:w3.heap.size < (w3.alloc (.cells #[.pointer (some ⟨q,0,none⟩), .int .i64 px, .int .i64 py, .int .i64 lv,(.func (.func 44) #[] #[.pointer (some ⟨wb,0,none⟩), .pointer (some ⟨vb,0,none⟩), .pointer (some ⟨zb,0,none⟩)]), .pointer (some ⟨sq,0,none⟩)] 170)).heap.size:=by simp
 obtain ⟨k,hk⟩:∃ n,w3.heap.size=n:=⟨_,rfl⟩
 rw [hk] at HB4 hs4 hqs ⊢
 clear hk0 hk1 hk2 hk3 hk4 hk5 HS HS3 HS4
 generalize w3.alloc (.cells #[.pointer (some ⟨q,0,none⟩), .int .i64 px, .int .i64 py, .int .i64 lv,(.func (.func 44) #[] #[.pointer (some ⟨wb,0,none⟩), .pointer (some ⟨vb,0,none⟩), .pointer (some ⟨zb,0,none⟩)]), .pointer (some ⟨sq,0,none⟩)] 170)=w4 at HB4 hs4 ⊢
 clear HB3 hk w3
 go_wp2_with fail
 go_at_call 88
 refine (node_first k q s sq cc 0 1 cd C none D (.func (.func 44) #[] #[.pointer (some ⟨wb,0,none⟩), .pointer (some ⟨vb,0,none⟩), .pointer (some ⟨zb,0,none⟩)]) px py lv w4 HB4.out.2.1 (H.out.2.2.2.2.2.1.1.chg (X:=fun _=>False) (Chg.of (HB4.out.1.mono (Nat.le_refl _))) (fun e=>e) (fun _ _ e=>e)) HB4.out.2.2 H.out.2.2.2.2.1.1.1).mono ?_
 rintro e w5 ⟨rfl,C5,c5,hq5,hc5,hC5⟩
 have hC5':∀ j,gP C5 j→w4.heap.size≤j:=fun j hj=>(hC5 j hj).elim (fun e=>by cases e) (fun e=>e)
 have hc5':Chg (fun j=>j=sq) w4 w5:=hc5.mono (fun k hk=>hk.elim .inl (fun e=>by cases e))
 have k5:w5.cell? ⟨k,5,none⟩=some (.pointer (some ⟨sq,0,none⟩)):=(hc5'.cell (p:=⟨k,5,none⟩) hs4 (by show ¬ k=sq;omega)).trans HB4.out.2.1.c5
 have hs5:=hc5.size
 have hcw5:Chg (fun j=>j=bt) w w5:=(Chg.of (X:=fun _=>False) HB4.out.1).trans hc5' (fun k hk => .inr (by have e':k=sq:=hk;omega)) |>.mono (fun k hk=>hk.elim)
 have hT5:Tb w5 lo qt bt kt L (gU (fun x=>G x∨x=sq) C5):=H.out.1.1.step (fun j _ hj hjs=>(hc5'.block j (by have:=HB4.out.1.size;omega) (fun e=>by have e':j=sq:=e;omega)).trans (HB4.out.1.block j hjs)) hcw5.size (fun j hj=>hj.elim (fun e=>e.elim .inl (fun e => .inr (by omega))) (fun e => .inr (by have:=hC5' j e;have:=HB4.out.1.size;omega)))
 have H5:=Lib.hid (show Qu w5 sq C5 1 c5 [.int .u64 (farI 0 0 0 px py), .int .u64 0, .int .i64 0]∧Tb w5 lo qt bt kt L (gU (fun x=>G x∨x=sq) C5)∧Chg (fun j=>j=bt) w w5∧Sk w5 k q sq px py lv (.func (.func 44) #[] #[.pointer (some ⟨wb,0,none⟩), .pointer (some ⟨vb,0,none⟩), .pointer (some ⟨zb,0,none⟩)])∧(∀ j,gP C5 j→w4.heap.size≤j∧j < w5.heap.size) from ⟨hq5,hT5,hcw5,HB4.out.2.1.chg hc5' (by show ¬ k=sq;omega),fun j hj=>⟨hC5' j hj,(hq5.rowlt j hj).2⟩⟩)
 clear hq5 hc5 hC5 hC5' hc5' hcw5 hT5
 go_wp2_with fail
 go_step3
 go_wp2_with fail
 go_loopw [12] (fun l wr=>∃ n:Nat,n≤2∧Hid ((n=0→l = .slice none 0 0∧wr=w5)
   ∧ (n=1→l = .slice none 0 0∧w5.heap.size < wr.heap.size∧(∃ C1 c1,Qu wr sq C1 1 c1 [.int .u64 (farI lv (x / sd lv) (y / sd lv) px py), .int .u64 1, .int .i64 id]∧Tb wr lo qt bt (kt+2) L (gU (gU (fun x=>G x∨x=sq) C5) C1)∧(∀ j,gP C1 j→w4.heap.size≤j))∧Chg (fun j=>j=bt) w wr∧wr.cell? ⟨k,5,none⟩=some (.pointer (some ⟨sq,0,none⟩)))
   ∧ (n=2→∃ A ca,l = .slice A 1 ca∧wr.ownsRow w.heap.size 32 4 (.slice A 1 ca) 1 [.int .i64 id, .int .i64 x, .int .i64 y, .int .i64 label]∧Tb wr lo qt bt (kt+2) L G∧Chg (fun j=>j=bt) w wr)))
  (fun l wr=>match l with | .slice (some _) _ _=>0|_=>if w5.heap.size < wr.heap.size then 1 else 2)
 case atStart=>exact ⟨0,by decide,⟨fun _=>⟨rfl,rfl⟩,fun e=>(by cases e),fun e=>(by cases e)⟩⟩
 case round=>
  obtain ⟨n,hn,hrel⟩:=hrel
  match n,hn with
  | 0,_=>
   obtain ⟨rfl,rfl⟩:=hrel.out.1 rfl
   clear hrel hn
   go_wp2_with fail
   refine (qpop_one sq c5 C5 (farI 0 0 0 px py) 0 0 wr H5.out.1).mono ?_
   rintro e w6 ⟨rfl,hq6,hc6⟩
   have HQ6:=Lib.hid (And.intro hq6 hc6)
   have hs6:=hc6.size
   clear hq6 hc6
   go_wp2_with fail
   go_at_call 90
   have hc7:Chg (fun j=>j=sq∨gP C5 j) wr (w6.alloc (.cells #[.int .u64 (farI 0 0 0 px py), .int .u64 0, .int .i64 0] 165)):=HQ6.out.2.alloc _
   have hq7:=HQ6.out.1.alloc (.cells #[.int .u64 (farI 0 0 0 px py), .int .u64 0, .int .i64 0] 165)
   have hsz7:w6.heap.size < (w6.alloc (.cells #[.int .u64 (farI 0 0 0 px py), .int .u64 0, .int .i64 0] 165)).heap.size:=by simp
   generalize (w6.alloc (.cells #[.int .u64 (farI 0 0 0 px py), .int .u64 0, .int .i64 0] 165))=w7 at hc7 hq7 hsz7 ⊢
   have hb4s:=HB4.out.1.size
   have hX5:∀ j,(j=sq∨gP C5 j)→w.heap.size < j∧j < wr.heap.size∧j≠k:=fun j e=>e.elim (fun e=>by omega) (fun e=>by have:=H5.out.2.2.2.2 j e;omega)
   have hcw7:Chg (fun j=>j=bt) w w7:=H5.out.2.2.1.trans hc7 (fun j hj => .inr (by have:=hX5 j hj;omega))
   refine (open_first (gU (fun x=>G x∨x=sq) C5) lo qt bt kt L Pp Pc role tier id x y label z g wb vb zb k q s sq cc c5 cd bd C C5 D px py lv w7 (H5.out.2.1.step (fun j _ hj hjs=>hc7.block j hjs (fun e=>hj (e.elim (fun e => .inl (.inr e)) .inr))) hc7.size (fun _ h => .inl h)) (fun j hj=>by have:=hc7.size;rcases hj with (hj|hj)|hj;(have:=H.out.1.2 j hj;omega);omega;(have:=hX5 j (.inr hj);omega)) H.out.2.1.1 H.out.2.1.2.1 H.out.2.1.2.2 (H.out.2.2.1.1.chg hcw7 H.out.2.2.2.2.2.2.1.1) (H.out.2.2.1.2.1.chg hcw7 H.out.2.2.2.2.2.2.1.2.1) ((hcw7.cell (p:=⟨zb,0,none⟩) (cell_lt H.out.2.2.1.2.2) H.out.2.2.2.2.2.2.1.2.2).trans H.out.2.2.1.2.2) ⟨H.out.2.2.2.2.2.2.1.1,H.out.2.2.2.2.2.2.1.2.1,H.out.2.2.2.2.2.2.1.2.2,by omega⟩ H.out.2.2.2.1 (H5.out.2.2.2.1.chg hc7 (fun e=>(hX5 k e).2.2 rfl)) hq7 (fun j e=>e.elim (fun e => .inl (.inr e)) .inr) H.out.2.2.2.2.1.1 H.out.2.2.2.2.1.2 (H.out.2.2.2.2.2.1.1.chg hcw7 H.out.2.2.2.2.2.2.2.1 (fun j hj=>H.out.2.2.2.2.2.2.2.2.2.1 j hj)) (own_chg H.out.2.2.2.2.2.1.2.1 hcw7 (fun j hj=>H.out.2.2.2.2.2.2.2.2.2.2 j (by rw [gOf_own] at hj;exact hj)))).mono ?_
   rintro e w8 ⟨rfl,C8,c8,hq8,hT8,hc8,hC8⟩
   have hs8:=hc8.size
   have hs7:=hc7.size
   have HE:=Lib.hid (show (∃ C1 c1,Qu w8 sq C1 1 c1 [.int .u64 (farI lv (x / sd lv) (y / sd lv) px py), .int .u64 1, .int .i64 id]∧Tb w8 lo qt bt (kt+2) L (gU (gU (fun x=>G x∨x=sq) C5) C1)∧(∀ j,gP C1 j→w4.heap.size≤j))∧Chg (fun j=>j=bt) w w8∧w8.cell? ⟨k,5,none⟩=some (.pointer (some ⟨sq,0,none⟩)) from ⟨⟨C8,c8,hq8,hT8,fun j hj=>(hC8 j hj).elim (fun e=>(H5.out.2.2.2.2 j e).1) (fun e=>by omega)⟩,hcw7.trans hc8 (fun j hj=>hj.elim .inl (fun e => .inr (by have:=hX5 j e;omega))),(((hc7.mono (X':=fun j=>j=bt∨j=sq∨gP C5 j) (fun j hj => .inl (.inr hj))).trans hc8 (fun j hj => .inl hj)).cell (p:=⟨k,5,none⟩) (by show k < _;omega) (fun e=>by rcases e with e|e;(have e':k=bt:=e;omega);exact (hX5 k e).2.2 rfl)).trans k5⟩)
   clear hq8 hT8 hc8 hC8 hc7 hq7 hX5 hcw7
   go_wp2_with fail
   go_roundw
   case rel=>exact ⟨1,by decide,⟨fun e=>(by cases e),fun _=>⟨rfl,by omega,HE.out⟩,fun e=>(by cases e)⟩⟩
   case measure=>
    show (if wr.heap.size < w8.heap.size then 1 else 2) < (if wr.heap.size < wr.heap.size then 1 else 2)
    rw [if_pos (by omega),if_neg (Nat.lt_irrefl _)]
    decide
  | 1,_=>
   obtain ⟨rfl,hsz,⟨C1,c1,hq1,hT1,hC1⟩,hcw,k5'⟩:=hrel.out.2.1 rfl
   obtain ⟨dd,hdd⟩:∃ d,farI lv (x / sd lv) (y / sd lv) px py=d:=⟨_,rfl⟩
   rw [hdd] at hq1
   have HQ1:=Lib.hid (And.intro hq1 (And.intro hT1 (And.intro hC1 hcw)))
   clear hrel hn hq1 hT1 hC1 hcw hdd k5
   go_wp2_with fail
   refine (qpop_one sq c1 C1 dd 1 id wr HQ1.out.1).mono ?_
   rintro e w6 ⟨rfl,hq6,hc6⟩
   have hs6:=hc6.size
   have hb4s:=HB4.out.1.size
   have hcw6:Chg (fun j=>j=bt) w w6:=HQ1.out.2.2.2.trans hc6 (fun j hj => .inr (hj.elim (fun e=>by omega) (fun e=>by have:=HQ1.out.2.2.1 j e;omega)))
   have HT6:=Lib.hid (show Tb w6 lo qt bt (kt+2) L G∧Chg (fun j=>j=bt) w w6 from ⟨HQ1.out.2.1.step (fun j _ hj hjs=>hc6.block j hjs (fun e=>hj (e.elim (fun e => .inl (.inl (.inr e))) .inr))) hc6.size (fun j hj => .inl (.inl (.inl (.inl hj)))),hcw6⟩)
   have hm6:=H.out.2.2.2.2.2.1.2.2.chg hcw6 H.out.2.2.2.2.2.2.2.2.1
   have q3:w6.cell? ⟨q,3,none⟩=some (.map (some s)):=(hcw6.cell (p:=⟨q,3,none⟩) hql H.out.2.2.2.2.2.2.2.1).trans H.out.2.2.2.2.2.1.1.c3
   have hsl:s < w6.heap.size:=hm6.lt
   have hq6l:q < w6.heap.size:=by have:=hcw6.size;omega
   have hlk:=fun (W:World) (hW:W.heap[s]? = w6.heap[s]?)=>(hm6.same hW).look (mt:=110) Tryz.underlying110 (zero_rec W) hid
   simp only [if_true,Option.getD_some] at hlk
   obtain ⟨om,hom⟩:∃ o,w6.heap[s]? = o:=⟨_,rfl⟩
   rw [hom] at hlk
   clear hq6 hc6 hcw6 hm6
   go_wp2_with fail
   have hbE:Below w6.heap.size w6 (w6.alloc (.cells #[.int .u64 dd, .int .u64 1, .int .i64 id] 165)).drew:=((Below.refl w6.heap.size w6).alloc (Nat.le_refl _) _).drew
   have HS:(fun w'=>w'.heap[s]? = om∧w'.cell? ⟨q,3,none⟩=some (.map (some s))∧w'.cell? ⟨w6.heap.size,2,none⟩=some (.int .i64 id)) (w6.alloc (.cells #[.int .u64 dd, .int .u64 1, .int .i64 id] 165)).drew:=⟨(hbE.block _ hsl).trans hom,by go_simp,by go_simp⟩
   refine wp_region_early (fun w'=>w'.heap[s]? = om∧w'.cell? ⟨q,3,none⟩=some (.map (some s))∧w'.cell? ⟨w6.heap.size,2,none⟩=some (.int .i64 id)) (fun j=>decide (j < 10)) (by kernel_rfl) HS (fun HS=>?_)
   (refine q9t (i:=0) rfl HS ?_;(try simp only [Act.put,q9x,q9y,q9z]))
   (refine q9t (i:=1) rfl HS ?_;(try simp only [Act.put,q9x,q9y,q9z]))
   (refine q9t (i:=2) rfl HS ?_;(try simp only [Act.put,q9x,q9y,q9z]))
   (refine q9t (i:=3) rfl HS ?_;(try simp only [Act.put,q9x,q9y,q9z]))
   (refine q9t (i:=4) rfl HS ?_;(try simp only [Act.put,q9x,q9y,q9z]))
   (refine q9t (i:=5) rfl HS ?_;(try simp only [Act.put,q9x,q9y,q9z]))
   (refine q9t (i:=6) rfl HS ?_;(try simp only [Act.put,q9x,q9y,q9z]))
   (refine q9t (i:=7) rfl HS ?_;(try simp only [Act.put,q9x,q9y,q9z]))
   refine wpAnyE_one (i:=8) rfl (by kernel_rfl) ?_
   go_wp2_with fail
   have hbF:Below w6.heap.size w6 ((w6.alloc (.cells #[.int .u64 dd, .int .u64 1, .int .i64 id] 165)).drew.alloc (.cells #[.int .i64 id, .int .i64 x, .int .i64 y, .int .i64 label] 32)):=hbE.alloc (by simp) _
   have HS8:(fun w'=>w'.heap[s]? = om∧w'.cell? ⟨q,3,none⟩=some (.map (some s))∧w'.cell? ⟨w6.heap.size,2,none⟩=some (.int .i64 id)) ((w6.alloc (.cells #[.int .u64 dd, .int .u64 1, .int .i64 id] 165)).drew.alloc (.cells #[.int .i64 id, .int .i64 x, .int .i64 y, .int .i64 label] 32)):=⟨(hbF.block _ hsl).trans hom,by go_simp,by go_simp⟩
   first|refine ⟨fun _=>HS8,?_⟩|refine ⟨HS8.1,?_⟩|skip
   refine wpAnyE_one (i:=9) rfl (by kernel_rfl) ?_
   refine wpList_append_own_at _ rfl _ _ 53 rfl w.heap.size 32 i0 (.agg #[.int .i64 0, .int .i64 0, .int .i64 0, .int .i64 0]) 4 32 Tryz.underlying53 hi hz0 hz1 hz2 rfl (by decide) (.slice none 0 0) 0 _ (by rfl) (World.ownsRow_nil _ _ _ _) ⟨w6.heap.size+1,0,none⟩ 1 1 [.int .i64 id, .int .i64 x, .int .i64 y, .int .i64 label] (by rfl) (by rfl) (by
    have h9:=cells_four_new (w6.alloc (.cells #[.int .u64 dd, .int .u64 1, .int .i64 id] 165)).drew (.int .i64 id) (.int .i64 x) (.int .i64 y) (.int .i64 label) 32
    have e9:(w6.alloc (.cells #[.int .u64 dd, .int .u64 1, .int .i64 id] 165)).drew.heap.size=w6.heap.size+1:=by simp
    rw [e9] at h9
    exact h9) (by intro u hu;simp at hu;rcases hu with rfl|rfl|rfl|rfl <;> rfl) (by unfold maxLen;omega) (by omega) (by simp;omega) ?_
   intro v3 w9 hown3 hgrow3 _ hat3
   obtain ⟨A3,k3,rfl⟩:=own_formN hown3
   have hb9:Below w6.heap.size w6 w9:=Below.grown hbF hgrow3 (by simp;omega) (fun k hk=>by cases hk)
   have q9:∀ p:Addr,p.block < w6.heap.size+2→w9.cell? p=((w6.alloc (.cells #[.int .u64 dd, .int .u64 1, .int .i64 id] 165)).drew.alloc (.cells #[.int .i64 id, .int .i64 x, .int .i64 y, .int .i64 label] 32)).cell? p:=fun p hp=>hgrow3.cell_far p (by simp;omega) (fun e=>by cases e)
   have HS9:(fun w'=>w'.heap[s]? = om∧w'.cell? ⟨q,3,none⟩=some (.map (some s))∧w'.cell? ⟨w6.heap.size,2,none⟩=some (.int .i64 id)) w9:=⟨(hb9.block _ hsl).trans hom,(q9 ⟨q,3,none⟩ (by show q < _;omega)).trans (by go_simp),(q9 ⟨w6.heap.size,2,none⟩ (by show w6.heap.size < _;omega)).trans (by go_simp)⟩
   first|refine ⟨fun _=>HS9,?_⟩|skip
   have HE:=Lib.hid (show w9.ownsRow w.heap.size 32 4 (.slice A3 1 k3) 1 [.int .i64 id, .int .i64 x, .int .i64 y, .int .i64 label]∧Tb w9 lo qt bt (kt+2) L G∧Chg (fun j=>j=bt) w w9 from ⟨hown3,HT6.out.1.keep hb9,HT6.out.2.trans (Chg.of (X:=fun j=>j=bt) hb9) (fun j hj => .inl hj)⟩)
   have hA3:∃ a,A3=some a:=by
    obtain ⟨g9,cap9,hv9,_,_⟩:=hown3.form (by omega)
    injection hv9 with h9
    exact ⟨_,h9⟩
   clear hown3 hgrow3 q9 HS HS8 HS9 hat3 hb9 hbF hbE hom hlk
   refine wpAnyE_rest (k:=10) rfl (by kernel_rfl) (fun j hj=>by simp;omega) ?_
   simp only [List.drop_succ_cons,List.drop_zero]
   go_wp2_with fail
   go_roundw
   case rel=>exact ⟨2,by decide,⟨fun e=>(by cases e),fun e=>(by cases e),fun _=>⟨A3,k3,rfl,HE.out⟩⟩⟩
   case measure=>
    obtain ⟨a,rfl⟩:=hA3
    show 0 < (if w5.heap.size < wr.heap.size then 1 else 2)
    rw [if_pos hsz]
    decide
  | 2,_=>
   obtain ⟨A,ca,rfl,hown,hT,hcw⟩:=hrel.out.2.2 rfl
   have HE:=Lib.hid (And.intro hown (And.intro hT hcw))
   clear hrel hown hT hcw
   go_wp2_with fail
   (try rw [Exit.noGoto_ret])
   go_ret
   exact ⟨A,ca,rfl,HE.out⟩
end Go.Proofs.YthlijfligikciaaGreat
