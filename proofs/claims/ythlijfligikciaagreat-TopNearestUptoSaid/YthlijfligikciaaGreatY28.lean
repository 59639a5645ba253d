/- A part of one proof: SnD PnB PnC PnP PnD. No condition. -/
import Derived.Test.YthlijfligikciaaGreatY25
import Derived.Test.YthlijfligikciaaGreatY27
import Derived.Test.YthlijfligikciaaGreatY19
import Derived.Test.YthlijfligikciaaGreatY12
namespace Go.Proofs.YthlijfligikciaaGreat
open Go.RowKit Go.Maps
set_option linter.unusedSimpArgs false
set_option linter.unusedVariables false
set_option maxRecDepth 2000
theorem eql_keep (f:Fn) (c:Array Value) (w:World):(binOp .eql 102 (.func f #[] c) .nilFunc).run Tryz.prog w = .ok (.bool false) w:=by kernel_rfl
set_option maxHeartbeats 16000000 in
theorem record_first (G:Nat→Prop) (lo qt bt kt:Nat) (L:List Rl) (Pp Pc:Option Addr) (role tier id x y label z:Int) (g:Gr) (wb vb zb:Nat) (k q sq cq:Nat) (Cq:Option Addr) (px py lv:Int) (w:World) (ht:Tb w lo qt bt kt L G) (hgw:∀ x,G x→x < w.heap.size) (hkt:kt+1 < 1000000) (hcnt:cntB L≤1048576) (hn1:L.length≤1000000) (hw:Wb w wb Pp Pc qt) (hv:Vb w vb role tier g) (hz:w.cell? ⟨zb,0,none⟩=some (.int .i64 z)) (hne:wb≠bt∧vb≠bt∧zb≠bt∧k≠bt)
  (hkeep:(seeB L role tier g x y label && (zoomT L role tier label x y == z))=true) (h:Sk w k q sq px py lv (.func (.func 44) #[] #[.pointer (some ⟨wb,0,none⟩), .pointer (some ⟨vb,0,none⟩), .pointer (some ⟨zb,0,none⟩)])) (hq:Qu w sq Cq 0 cq []) (hG:∀ j,(j=sq∨gP Cq j)→G j) (hlv:0≤lv∧lv≤16) (hf:fitsB x y=true):
  Calls Tryz.prog 123 #[.pointer (some ⟨k,0,none⟩), .agg #[.int .i64 id, .int .i64 x, .int .i64 y, .int .i64 label]] w fun e w'=>e = .returned (.tuple #[])∧∃ C' cc',Qu w' sq C' 1 cc' [.int .u64 (farI lv (x / sd lv) (y / sd lv) px py), .int .u64 1, .int .i64 id]∧Tb w' lo qt bt (kt+2) L (gU G C')∧Chg (fun j=>j=bt∨j=sq∨gP Cq j) w w'∧∀ j,gP C' j→gP Cq j∨w.heap.size≤j:=by
 have hbl:=ht.ltb
 have hkl:=h.lt
 have PK:=Lib.hid (fun (Y:World) (hY:Below w.heap.size w Y)=>pkeep_any G lo qt bt kt L Pp Pc role tier id x y label z g wb vb zb Y (ht.keep hY) (fun x e=>Nat.lt_of_lt_of_le (hgw x e) hY.size) hkt hcnt hn1 (hw.chg (X:=fun _=>False) (Chg.of hY) (fun e=>e)) (hv.chg (X:=fun _=>False) (Chg.of hY) (fun e=>e)) ((hY.cell (p:=⟨zb,0,none⟩) (cell_lt hz)).trans hz) ⟨hne.1,hne.2.1,hne.2.2.1⟩)
 rw [hkeep] at PK
 unfold TabPost at PK
 have PF:=Lib.hid (fun (Y:World) (hY:Chg (fun j=>j=bt) w Y)=>far_low k q sq px py lv _ lv (x / sd lv) (y / sd lv) Y (h.chg hY hne.2.2.2) (Int.le_refl _) (cell_ok hlv hf))
 have pof:=fun (Y:World)=>cof_any x y lv Y
 rw [show (lvlB lv && fitsB x y)=true by rw [hf,lvl_iff.2 hlv];rfl] at pof
 simp only [sel,if_true] at pof
 obtain ⟨cx,hcx⟩:∃ c,x / sd lv=c:=⟨_,rfl⟩
 obtain ⟨cy,hcy⟩:∃ c,y / sd lv=c:=⟨_,rfl⟩
 rw [hcx,hcy] at pof PF ⊢
 have POf:=Lib.hid pof
 have HQ:=Lib.hid (And.intro hq (And.intro hG ht.gq))
 have hsb:sq≠bt:=by have:=ht.gq sq (hG sq (.inl rfl));omega
 have hkn:k≠bt:=hne.2.2.2
 have c3:=h.c3
 have c4:=h.c4
 have c5:=h.c5
 have hsk:=Lib.hid h
 generalize farI lv cx cy px py=dd at PF ⊢
 clear pof ht hgw hcnt hn1 hw hv hz hkeep hq hG hlv hf hcx hcy hne h hkt
 have hek:=eql_keep
 go_enter Tryz.func123,Tryz.ntmps123
 go_wp2_with fail
 (refine wp_region_later_tail 11 (w.heap.size+1) (by kernel_rfl) (by kernel_rfl) (by go_size) ?_;simp only [List.take_succ_cons,List.take_zero,List.drop_succ_cons,List.drop_zero];(repeat (go_big_quiet_step (fail)));refine wpQuiet_nil ?_;intro Xq hlXq hmXq)
 have hbq:Below w.heap.size w Xq.w:=q9l
 go_wp2_with fail
 go_at_call 44
 refine (PK.out _ hbq).mono ?_
 rintro e W ⟨rfl,hT,hg⟩
 have hcW:Chg (fun j=>j=bt) w W:=(Chg.of (X:=fun j=>j=bt) hbq).trans (Chg.ofGrown (X:=fun j=>j=bt) hg (fun k hk=>by injection hk with hk;exact hk.symm)) (fun k hk => .inl hk)
 have hs:=hg.size
 have hkW:∀ i,W.cell? ⟨w.heap.size,i,none⟩=Xq.w.cell? ⟨w.heap.size,i,none⟩:=fun i=>hg.cell_far ⟨w.heap.size,i,none⟩ (by show w.heap.size < _;omega) (fun e=>by injection e with e;have e':w.heap.size=bt:=e;omega)
 have r0:W.cell? ⟨w.heap.size,0,none⟩=some (.int .i64 id):=(hkW 0).trans (by go_simp)
 have r1:W.cell? ⟨w.heap.size,1,none⟩=some (.int .i64 x):=(hkW 1).trans (by go_simp)
 have r2:W.cell? ⟨w.heap.size,2,none⟩=some (.int .i64 y):=(hkW 2).trans (by go_simp)
 have k3:W.cell? ⟨k,3,none⟩=some (.int .i64 lv):=(hcW.cell (p:=⟨k,3,none⟩) hkl hkn).trans c3
 have k5:W.cell? ⟨k,5,none⟩=some (.pointer (some ⟨sq,0,none⟩)):=(hcW.cell (p:=⟨k,5,none⟩) hkl hkn).trans c5
 have HW:=Lib.hid (And.intro hT hcW)
 have hsW:w.heap.size < W.heap.size:=by omega
 clear hT hg hcW hkW
 go_upto_region 2 with fail
 go_cut [4,5] from 19 to 28 (fun p9 s9 wx=>∃ nb:Nat,p9 = .pointer (some ⟨nb,0,none⟩)∧s9 = .bool true∧(W.heap.size≤nb∧nb < wx.heap.size)∧(wx.cell? ⟨nb,0,none⟩=some (.int .i64 lv)∧wx.cell? ⟨nb,1,none⟩=some (.int .i64 cx)∧wx.cell? ⟨nb,2,none⟩=some (.int .i64 cy))∧Below W.heap.size W wx)
 case first=>
  have HSS:=Lib.hid (show ∀ W',Below W.heap.size W W'→(fun w'=>w'.cell? ⟨w.heap.size,1,none⟩=some (.int .i64 x)∧w'.cell? ⟨w.heap.size,2,none⟩=some (.int .i64 y)∧w'.cell? ⟨k,3,none⟩=some (.int .i64 lv)) W' from fun W' hb=>⟨(hb.cell (p:=⟨w.heap.size,1,none⟩) hsW).trans r1,(hb.cell (p:=⟨w.heap.size,2,none⟩) hsW).trans r2,(hb.cell (p:=⟨k,3,none⟩) (by show k < _;omega)).trans k3⟩)
  refine wp_region_early (fun w'=>w'.cell? ⟨w.heap.size,1,none⟩=some (.int .i64 x)∧w'.cell? ⟨w.heap.size,2,none⟩=some (.int .i64 y)∧w'.cell? ⟨k,3,none⟩=some (.int .i64 lv)) (fun _=>true) (by kernel_rfl) (HSS.out _ q9l) (fun HS=>?_)
  (refine q9t (i:=0) rfl HS ?_;(try simp only [Act.put,q9x,q9y,q9z]))
  (refine q9t (i:=1) rfl HS ?_;(try simp only [Act.put,q9x,q9y,q9z]))
  (refine q9t (i:=2) rfl HS ?_;(try simp only [Act.put,q9x,q9y,q9z]))
  (refine q9t (i:=3) rfl HS ?_;(try simp only [Act.put,q9x,q9y,q9z]))
  (refine q9t (i:=4) rfl HS ?_;(try simp only [Act.put,q9x,q9y,q9z]))
  (refine q9t (i:=5) rfl HS ?_;(try simp only [Act.put,q9x,q9y,q9z]))
  refine wpAnyE_two (i:=6) (j:=10) rfl rfl (by kernel_rfl) ?_ ?_
  ·go_wp2_with fail
   go_at_call 29
   refine (POf.out _).mono ?_
   rintro e w' ⟨rfl,hb⟩;obtain ⟨X1,rfl,hl1,hm1⟩:=later _ hb (Nat.le_refl _);clear hb;(try simp only [q9A,q9B,q9D] at hm1 hl1)
   have HS:=HSS.out X1.w q9l
   go_wp2_with fail
   first|refine ⟨fun _=>HS,?_⟩|skip
   (refine q9t (i:=7) rfl HS ?_;(try simp only [Act.put,q9x,q9y,q9z]))
   (refine q9t (i:=8) rfl HS ?_;(try simp only [Act.put,q9x,q9y,q9z]))
   (refine q9t (i:=9) rfl HS ?_;(try simp only [Act.put,q9x,q9y,q9z]))
   refine wpAnyE_one (i:=10) rfl (by kernel_rfl) ?_
   go_wp2_with fail
   first|refine ⟨fun _=>HSS.out _ q9l,?_⟩|skip
   refine wpAnyE_one (i:=11) rfl (by kernel_rfl) ?_
   go_wp2_with fail
   first|refine ⟨fun _=>HSS.out _ q9l,?_⟩|skip
   refine wpAnyE_one (i:=12) rfl (by kernel_rfl) ?_
   go_wp2_with fail
   first|refine ⟨fun _=>HSS.out _ q9l,?_⟩|skip
   refine ⟨by kernel_rfl,?_⟩
   go_wp2_with fail
   go_meet
   exact ⟨_,rfl,rfl,⟨by go_size,by go_size⟩,⟨by go_simp,by go_simp,by go_simp⟩,q9l⟩
  ·go_wp2_with fail
   have HS:=HSS.out (W.drew.alloc (.cells #[.int .i64 0, .int .i64 0, .int .i64 0] 83)) q9l
   first|refine ⟨fun _=>HS,?_⟩|skip
   refine wpAnyE_one (i:=6) rfl (by kernel_rfl) ?_
   go_wp2_with fail
   go_at_call 29
   refine (POf.out _).mono ?_
   rintro e w' ⟨rfl,hb⟩;obtain ⟨X1,rfl,hl1,hm1⟩:=later _ hb (Nat.le_refl _);clear hb;(try simp only [q9A,q9B,q9D] at hm1 hl1)
   have HS:=HSS.out X1.w q9l
   go_wp2_with fail
   first|refine ⟨fun _=>HS,?_⟩|skip
   (refine q9t (i:=7) rfl HS ?_;(try simp only [Act.put,q9x,q9y,q9z]))
   (refine q9t (i:=8) rfl HS ?_;(try simp only [Act.put,q9x,q9y,q9z]))
   (refine q9t (i:=9) rfl HS ?_;(try simp only [Act.put,q9x,q9y,q9z]))
   refine wpAnyE_one (i:=11) rfl (by kernel_rfl) ?_
   go_wp2_with fail
   first|refine ⟨fun _=>HSS.out _ q9l,?_⟩|skip
   refine wpAnyE_one (i:=12) rfl (by kernel_rfl) ?_
   go_wp2_with fail
   first|refine ⟨fun _=>HSS.out _ q9l,?_⟩|skip
   refine ⟨by kernel_rfl,?_⟩
   go_wp2_with fail
   go_meet
   exact ⟨_,rfl,rfl,⟨by go_size,by go_size⟩,⟨by go_simp,by go_simp,by go_simp⟩,q9l⟩
 case rest=>
  obtain ⟨nb,rfl,rfl,⟨hn1,hn2⟩,⟨a0,a1,a2⟩,hb⟩:=hcut
  have hsc:=hb.size
  have b0:wc.cell? ⟨w.heap.size,0,none⟩=some (.int .i64 id):=(hb.cell (p:=⟨w.heap.size,0,none⟩) hsW).trans r0
  have b5:wc.cell? ⟨k,5,none⟩=some (.pointer (some ⟨sq,0,none⟩)):=(hb.cell (p:=⟨k,5,none⟩) (by show k < _;omega)).trans k5
  have PF2:=Lib.hid (fun (Y:World) (hY:Below wc.heap.size wc Y)=>PF.out Y (HW.out.2.trans (Chg.of (X:=fun j=>j=bt) (hb.trans (hY.mono hsc))) (fun k hk => .inl hk)))
  have HB:=Lib.hid hb
  have hsw:w.heap.size < wc.heap.size:=by omega
  have hkc:k < wc.heap.size:=by omega
  clear hb r0 r1 r2 k3 k5 c3 c4 c5 PF
  go_wp2_with fail
  (refine wp_region_later_tail 10 (wc.heap.size) (by kernel_rfl) (by kernel_rfl) (by go_size) ?_;simp only [List.take_succ_cons,List.take_zero,List.drop_succ_cons,List.drop_zero];(repeat (go_big_quiet_step ((first|(go_at_call 121;exact Later.call _ (Nat.le_trans (by go_size) (Later.is _).size) (PF2.out _ q9l))))));refine wpQuiet_nil ?_;intro Xr hlXr hmXr)
  have hbr:Below wc.heap.size wc Xr.w:=q9l
  go_wp2_with fail
  go_at_call 86
  have hWr:Below W.heap.size W Xr.w:=HB.out.trans (hbr.mono hsc)
  have hqr:Qu Xr.w sq Cq 0 cq []:=(HQ.out.1.chg HW.out.2 hsb (fun k hk e=>by have:=HQ.out.2.2 k (HQ.out.2.1 k (.inr hk));have e':k=bt:=e;omega)).keep hWr
  refine (qpush_none sq cq Cq dd 1 id _ hqr).mono ?_
  rintro e w2 ⟨rfl,C',cq',hq2,hc2,hC2⟩
  have hsr:=hWr.size
  have hcW2:Chg (fun j=>j=sq∨gP Cq j) W w2:=(Chg.of (X:=fun j=>j=sq∨gP Cq j) hWr).trans hc2 (fun k hk => .inl hk)
  have HE:=Lib.hid (show Qu w2 sq C' 1 cq' _∧Tb w2 lo qt bt (kt+2) L (gU G C')∧Chg (fun j=>j=bt∨j=sq∨gP Cq j) w w2∧∀ j,gP C' j→gP Cq j∨w.heap.size≤j from ⟨hq2,HW.out.1.step (fun j _ hj hjs=>hcW2.block j hjs (fun e=>hj (HQ.out.2.1 j e))) hcW2.size (fun j hj=>hj.elim .inl (fun e=>(hC2 j e).elim (fun e => .inl (HQ.out.2.1 j (.inr e))) (fun e => .inr (by omega)))),(HW.out.2.mono (X':=fun j=>j=bt∨j=sq∨gP Cq j) (fun k hk => .inl (.inl hk))).trans hcW2 (fun k hk => .inl (.inr hk)),fun j hj=>(hC2 j hj).elim .inl (fun e => .inr (by omega))⟩)
  clear hq2 hc2 hC2 hqr hWr hcW2
  go_wp2_with fail
  exact bodyPost_end (v := .tuple #[]) (by first|rfl|kernel_rfl) rfl ⟨rfl,C',cq',HE.out⟩
structure Env {α:Type} (fk:Nat) (args:α→Array Value) (bt:Nat) (kp:α→Bool) (T:Nat→(Nat→Prop)→World→Prop):Prop where
 step:∀ {n G G' w w'},T n G w→(∀ k,¬ G k→k < w.heap.size→w'.heap[k]? = w.heap[k]?)→w.heap.size≤w'.heap.size→(∀ x,G' x→G x∨w.heap.size≤x)→T n G' w'
 keep:∀ n G r w,T n G w→(∀ x,G x→x < w.heap.size)→n≤500000→Calls Tryz.prog fk (args r) w fun e w'=>e = .returned (.bool (kp r))∧T (n+2) G w'∧w.grownBy w' (some bt)
 lt:∀ {n G w},T n G w→bt < w.heap.size
 not:∀ {n G w},T n G w→∀ x,G x→bt < x
theorem Env.below {α:Type} {fk:Nat} {args:α→Array Value} {bt:Nat} {kp:α→Bool} {T:Nat→(Nat→Prop)→World→Prop} (E:Env fk args bt kp T) {n:Nat} {G:Nat→Prop} {w w':World} (h:T n G w) (hb:Below w.heap.size w w'):T n G w':=E.step h (fun k _ hk=>hb.block k hk) hb.size (fun x hx => .inl hx)
def RcdPost (T:Nat→(Nat→Prop)→World→Prop) (n:Nat) (G:Nat→Prop) (sq bt:Nat) (C:Option Addr) (M:List En) (kp:Bool) (id:Int) (w:World) (e:Ending) (w':World):Prop:=
 e = .returned (.tuple #[])∧∃ C' d,QH w' sq C' (if kp then ⟨d,1,id⟩ :: M else M)∧T (n+2) (gU G C') w'∧Chg (fun j=>j=bt∨j=sq∨gP C j) w w'∧∀ j,gP C' j→gP C j∨w.heap.size≤j
set_option maxHeartbeats 16000000 in
theorem record_any (wb vb zb bt:Nat) (kp:Rc→Bool) (T:Nat→(Nat→Prop)→World→Prop) (EN:Env 44 (fun r:Rc=>#[.agg #[.int .i64 r.id, .int .i64 r.x, .int .i64 r.y, .int .i64 r.label], .pointer (some ⟨wb,0,none⟩), .pointer (some ⟨vb,0,none⟩), .pointer (some ⟨zb,0,none⟩)]) bt kp T) (n:Nat) (G:Nat→Prop) (k q sq:Nat) (C:Option Addr) (M:List En) (px py lv:Int) (r:Rc) (w:World)
  (hT:T n G w) (hgw:∀ x,G x→x < w.heap.size) (hn:n≤500000) (h:Sk w k q sq px py lv (.func (.func 44) #[] #[.pointer (some ⟨wb,0,none⟩), .pointer (some ⟨vb,0,none⟩), .pointer (some ⟨zb,0,none⟩)])) (hk:k≠bt) (hq:QH w sq C M) (hM:M.length≤400000) (hG:∀ j,(j=sq∨gP C j)→G j) (hlv:0≤lv∧lv≤16) (hf:fitsB r.x r.y=true):
  Calls Tryz.prog 123 #[.pointer (some ⟨k,0,none⟩), .agg #[.int .i64 r.id, .int .i64 r.x, .int .i64 r.y, .int .i64 r.label]] w (RcdPost T n G sq bt C M (kp r) r.id w):=by
 have hbl:=EN.lt hT
 have hkl:=h.lt
 have PK:=Lib.hid (fun (Y:World) (hY:Below w.heap.size w Y)=>EN.keep n G r Y (EN.below hT hY) (fun x e=>Nat.lt_of_lt_of_le (hgw x e) hY.size) hn)
 have PF:=Lib.hid (fun (x y:Int) (Y:World) (hY:Chg (fun j=>j=bt) w Y)=>far_any k q sq px py lv _ lv x y Y (h.chg hY hk))
 have pof:=fun (Y:World)=>cof_any r.x r.y lv Y
 rw [show (lvlB lv && fitsB r.x r.y)=true by rw [hf,lvl_iff.2 hlv];rfl] at pof
 simp only [sel,if_true] at pof
 obtain ⟨cx,hcx⟩:∃ c,r.x / sd lv=c:=⟨_,rfl⟩
 obtain ⟨cy,hcy⟩:∃ c,r.y / sd lv=c:=⟨_,rfl⟩
 rw [hcx,hcy] at pof
 have POf:=Lib.hid pof
 obtain ⟨dfar,hdf⟩:∃ d,farV px py lv lv cx cy=d:=⟨_,rfl⟩
 have PF:=Lib.hid (PF.out cx cy)
 rw [hdf] at PF
 have HQ:=Lib.hid (And.intro hq (And.intro hG (And.intro (EN.not hT) hM)))
 have hsb:sq≠bt:=by have:=EN.not hT sq (hG sq (.inl rfl));omega
 have hkn:k≠bt:=hk
 have c3:=h.c3
 have c4:=h.c4
 have c5:=h.c5
 generalize hPost:RcdPost T n G sq bt C M (kp r) r.id w=Post
 have PK:Hid (∀ (Y:World),Below w.heap.size w Y→Calls Tryz.prog 44 #[.agg #[.int .i64 r.id, .int .i64 r.x, .int .i64 r.y, .int .i64 r.label], .pointer (some ⟨wb,0,none⟩), .pointer (some ⟨vb,0,none⟩), .pointer (some ⟨zb,0,none⟩)] Y fun e w'=>e = .returned (.bool (kp r))∧T (n+2) G w'∧Y.grownBy w' (some bt)):=PK
 cases hkp:kp r with
 | false=>
  rw [hkp] at hPost PK
  clear pof hcx hcy h hf hM hT hq hG hlv hkp
  have hek:=eql_keep
  go_enter Tryz.func123,Tryz.ntmps123
  go_wp2_with fail
  (refine wp_region_later_tail 11 (w.heap.size+1) (by kernel_rfl) (by kernel_rfl) (by go_size) ?_;simp only [List.take_succ_cons,List.take_zero,List.drop_succ_cons,List.drop_zero];(repeat (go_big_quiet_step (fail)));refine wpQuiet_nil ?_;intro Xq hlXq hmXq)
  have hbq:Below w.heap.size w Xq.w:=q9l
  go_wp2_with fail
  go_at_call 44
  refine (PK.out _ hbq).mono ?_
  rintro e W ⟨rfl,hT,hg⟩
  have hcW:Chg (fun j=>j=bt) w W:=(Chg.of (X:=fun j=>j=bt) hbq).trans (Chg.ofGrown (X:=fun j=>j=bt) hg (fun k hk=>by injection hk with hk;exact hk.symm)) (fun k hk => .inl hk)
  have HFin:=Lib.hid (show Post (.returned (.tuple #[])) W by
   rw [← hPost]
   refine ⟨rfl,C,0,HQ.out.1.chg hcW hsb (fun k hk e=>by have:=HQ.out.2.2.1 k (HQ.out.2.1 k (.inr hk));have e':k=bt:=e;omega),EN.step hT (fun k _ _=>rfl) (Nat.le_refl _) (fun x hx => .inl (hx.elim id (fun e=>HQ.out.2.1 x (.inr e)))),hcW.mono (fun k hk => .inl (.inl hk)),fun j hj => .inl hj⟩)
  clear hT hg hcW
  go_wp2_with fail
  exact bodyPost_end (v := .tuple #[]) (by first|rfl|kernel_rfl) rfl HFin.out
 | true=>
  rw [hkp] at hPost PK
  clear pof hcx hcy h hf hM hT hq hG hlv hkp
  have hek:=eql_keep
  go_enter Tryz.func123,Tryz.ntmps123
  go_wp2_with fail
  (refine wp_region_later_tail 11 (w.heap.size+1) (by kernel_rfl) (by kernel_rfl) (by go_size) ?_;simp only [List.take_succ_cons,List.take_zero,List.drop_succ_cons,List.drop_zero];(repeat (go_big_quiet_step (fail)));refine wpQuiet_nil ?_;intro Xq hlXq hmXq)
  have hbq:Below w.heap.size w Xq.w:=q9l
  go_wp2_with fail
  go_at_call 44
  refine (PK.out _ hbq).mono ?_
  rintro e W ⟨rfl,hT,hg⟩
  have hcW:Chg (fun j=>j=bt) w W:=(Chg.of (X:=fun j=>j=bt) hbq).trans (Chg.ofGrown (X:=fun j=>j=bt) hg (fun k hk=>by injection hk with hk;exact hk.symm)) (fun k hk => .inl hk)
  have hs:=hg.size
  have hkW:∀ i,W.cell? ⟨w.heap.size,i,none⟩=Xq.w.cell? ⟨w.heap.size,i,none⟩:=fun i=>hg.cell_far ⟨w.heap.size,i,none⟩ (by show w.heap.size < _;omega) (fun e=>by injection e with e;have e':w.heap.size=bt:=e;omega)
  have r0:W.cell? ⟨w.heap.size,0,none⟩=some (.int .i64 r.id):=(hkW 0).trans (by go_simp)
  have r1:W.cell? ⟨w.heap.size,1,none⟩=some (.int .i64 r.x):=(hkW 1).trans (by go_simp)
  have r2:W.cell? ⟨w.heap.size,2,none⟩=some (.int .i64 r.y):=(hkW 2).trans (by go_simp)
  have k3:W.cell? ⟨k,3,none⟩=some (.int .i64 lv):=(hcW.cell (p:=⟨k,3,none⟩) hkl hkn).trans c3
  have k5:W.cell? ⟨k,5,none⟩=some (.pointer (some ⟨sq,0,none⟩)):=(hcW.cell (p:=⟨k,5,none⟩) hkl hkn).trans c5
  have HW:=Lib.hid (And.intro hT hcW)
  have hsW:w.heap.size < W.heap.size:=by omega
  clear hT hg hcW hkW
  go_upto_region 2 with fail
  go_cut [4,5] from 19 to 28 (fun p9 s9 wx=>∃ nb:Nat,p9 = .pointer (some ⟨nb,0,none⟩)∧s9 = .bool true∧(W.heap.size≤nb∧nb < wx.heap.size)∧(wx.cell? ⟨nb,0,none⟩=some (.int .i64 lv)∧wx.cell? ⟨nb,1,none⟩=some (.int .i64 cx)∧wx.cell? ⟨nb,2,none⟩=some (.int .i64 cy))∧Below W.heap.size W wx)
  case first=>
   have HSS:=Lib.hid (show ∀ W',Below W.heap.size W W'→(fun w'=>w'.cell? ⟨w.heap.size,1,none⟩=some (.int .i64 r.x)∧w'.cell? ⟨w.heap.size,2,none⟩=some (.int .i64 r.y)∧w'.cell? ⟨k,3,none⟩=some (.int .i64 lv)) W' from fun W' hb=>⟨(hb.cell (p:=⟨w.heap.size,1,none⟩) hsW).trans r1,(hb.cell (p:=⟨w.heap.size,2,none⟩) hsW).trans r2,(hb.cell (p:=⟨k,3,none⟩) (by show k < _;omega)).trans k3⟩)
   refine wp_region_early (fun w'=>w'.cell? ⟨w.heap.size,1,none⟩=some (.int .i64 r.x)∧w'.cell? ⟨w.heap.size,2,none⟩=some (.int .i64 r.y)∧w'.cell? ⟨k,3,none⟩=some (.int .i64 lv)) (fun _=>true) (by kernel_rfl) (HSS.out _ q9l) (fun HS=>?_)
   (refine q9t (i:=0) rfl HS ?_;(try simp only [Act.put,q9x,q9y,q9z]))
   (refine q9t (i:=1) rfl HS ?_;(try simp only [Act.put,q9x,q9y,q9z]))
   (refine q9t (i:=2) rfl HS ?_;(try simp only [Act.put,q9x,q9y,q9z]))
   (refine q9t (i:=3) rfl HS ?_;(try simp only [Act.put,q9x,q9y,q9z]))
   (refine q9t (i:=4) rfl HS ?_;(try simp only [Act.put,q9x,q9y,q9z]))
   (refine q9t (i:=5) rfl HS ?_;(try simp only [Act.put,q9x,q9y,q9z]))
   refine wpAnyE_two (i:=6) (j:=10) rfl rfl (by kernel_rfl) ?_ ?_
   ·go_wp2_with fail
    go_at_call 29
    refine (POf.out _).mono ?_
    rintro e w' ⟨rfl,hb⟩;obtain ⟨X1,rfl,hl1,hm1⟩:=later _ hb (Nat.le_refl _);clear hb;(try simp only [q9A,q9B,q9D] at hm1 hl1)
    have HS:=HSS.out X1.w q9l
    go_wp2_with fail
    first|refine ⟨fun _=>HS,?_⟩|skip
    (refine q9t (i:=7) rfl HS ?_;(try simp only [Act.put,q9x,q9y,q9z]))
    (refine q9t (i:=8) rfl HS ?_;(try simp only [Act.put,q9x,q9y,q9z]))
    (refine q9t (i:=9) rfl HS ?_;(try simp only [Act.put,q9x,q9y,q9z]))
    refine wpAnyE_one (i:=10) rfl (by kernel_rfl) ?_
    go_wp2_with fail
    first|refine ⟨fun _=>HSS.out _ q9l,?_⟩|skip
    refine wpAnyE_one (i:=11) rfl (by kernel_rfl) ?_
    go_wp2_with fail
    first|refine ⟨fun _=>HSS.out _ q9l,?_⟩|skip
    refine wpAnyE_one (i:=12) rfl (by kernel_rfl) ?_
    go_wp2_with fail
    first|refine ⟨fun _=>HSS.out _ q9l,?_⟩|skip
    refine ⟨by kernel_rfl,?_⟩
    go_wp2_with fail
    go_meet
    exact ⟨_,rfl,rfl,⟨by go_size,by go_size⟩,⟨by go_simp,by go_simp,by go_simp⟩,q9l⟩
   ·go_wp2_with fail
    have HS:=HSS.out (W.drew.alloc (.cells #[.int .i64 0, .int .i64 0, .int .i64 0] 83)) q9l
    first|refine ⟨fun _=>HS,?_⟩|skip
    refine wpAnyE_one (i:=6) rfl (by kernel_rfl) ?_
    go_wp2_with fail
    go_at_call 29
    refine (POf.out _).mono ?_
    rintro e w' ⟨rfl,hb⟩;obtain ⟨X1,rfl,hl1,hm1⟩:=later _ hb (Nat.le_refl _);clear hb;(try simp only [q9A,q9B,q9D] at hm1 hl1)
    have HS:=HSS.out X1.w q9l
    go_wp2_with fail
    first|refine ⟨fun _=>HS,?_⟩|skip
    (refine q9t (i:=7) rfl HS ?_;(try simp only [Act.put,q9x,q9y,q9z]))
    (refine q9t (i:=8) rfl HS ?_;(try simp only [Act.put,q9x,q9y,q9z]))
    (refine q9t (i:=9) rfl HS ?_;(try simp only [Act.put,q9x,q9y,q9z]))
    refine wpAnyE_one (i:=11) rfl (by kernel_rfl) ?_
    go_wp2_with fail
    first|refine ⟨fun _=>HSS.out _ q9l,?_⟩|skip
    refine wpAnyE_one (i:=12) rfl (by kernel_rfl) ?_
    go_wp2_with fail
    first|refine ⟨fun _=>HSS.out _ q9l,?_⟩|skip
    refine ⟨by kernel_rfl,?_⟩
    go_wp2_with fail
    go_meet
    exact ⟨_,rfl,rfl,⟨by go_size,by go_size⟩,⟨by go_simp,by go_simp,by go_simp⟩,q9l⟩
  case rest=>
   obtain ⟨nb,rfl,rfl,⟨hn1,hn2⟩,⟨a0,a1,a2⟩,hb⟩:=hcut
   have hsc:=hb.size
   have b0:wc.cell? ⟨w.heap.size,0,none⟩=some (.int .i64 r.id):=(hb.cell (p:=⟨w.heap.size,0,none⟩) hsW).trans r0
   have b5:wc.cell? ⟨k,5,none⟩=some (.pointer (some ⟨sq,0,none⟩)):=(hb.cell (p:=⟨k,5,none⟩) (by show k < _;omega)).trans k5
   have PF2:=Lib.hid (fun (Y:World) (hY:Below wc.heap.size wc Y)=>PF.out Y (HW.out.2.trans (Chg.of (X:=fun j=>j=bt) (hb.trans (hY.mono hsc))) (fun k hk => .inl hk)))
   have HB:=Lib.hid hb
   have hsw:w.heap.size < wc.heap.size:=by omega
   have hkc:k < wc.heap.size:=by omega
   clear hb r0 r1 r2 k3 k5 c3 c4 c5 PF
   go_wp2_with fail
   (refine wp_region_later_tail 10 (wc.heap.size) (by kernel_rfl) (by kernel_rfl) (by go_size) ?_;simp only [List.take_succ_cons,List.take_zero,List.drop_succ_cons,List.drop_zero];(repeat (go_big_quiet_step ((first|(go_at_call 121;exact Later.call _ (Nat.le_trans (by go_size) (Later.is _).size) (PF2.out _ q9l))))));refine wpQuiet_nil ?_;intro Xr hlXr hmXr)
   have hbr:Below wc.heap.size wc Xr.w:=q9l
   go_wp2_with fail
   go_at_call 86
   have hWr:Below W.heap.size W Xr.w:=HB.out.trans (hbr.mono hsc)
   have hqr:QH Xr.w sq C M:=(HQ.out.1.chg HW.out.2 hsb (fun k hk e=>by have:=HQ.out.2.2.1 k (HQ.out.2.1 k (.inr hk));have e':k=bt:=e;omega)).keep hWr
   refine (qpush_any sq C M ⟨dfar,1,r.id⟩ _ hqr (by have:=HQ.out.2.2.2;omega)).mono ?_
   rintro e w2 ⟨rfl,C',hq2,hc2,hC2⟩
   have hsr:=hWr.size
   have hcW2:Chg (fun j=>j=sq∨gP C j) W w2:=(Chg.of (X:=fun j=>j=sq∨gP C j) hWr).trans hc2 (fun k hk => .inl hk)
   have hswW:=HW.out.2.size
   have HFin:=Lib.hid (show Post (.returned (.tuple #[])) w2 by
    rw [← hPost]
    refine ⟨rfl,C',dfar,by simpa using hq2,EN.step HW.out.1 (fun j hj hjs=>hcW2.block j hjs (fun e=>hj (HQ.out.2.1 j e))) hcW2.size (fun j hj=>hj.elim .inl (fun h9=>(hC2 j h9).elim (fun h8 => .inl (HQ.out.2.1 j (.inr h8))) (fun h8 => .inr (by omega)))),(HW.out.2.mono (X':=fun j=>j=bt∨j=sq∨gP C j) (fun k hk => .inl (.inl hk))).trans hcW2 (fun k hk => .inl (.inr hk)),fun j hj=>(hC2 j hj).elim .inl (fun h9 => .inr (by omega))⟩)
   clear hq2 hc2 hC2 hqr hWr hcW2
   go_wp2_with fail
   exact bodyPost_end (v := .tuple #[]) (by first|rfl|kernel_rfl) rfl HFin.out
def NodPost (sq:Nat) (C:Option Addr) (M:List En) (m i:Nat) (w:World) (e:Ending) (w':World):Prop:=
 e = .returned (.tuple #[])∧∃ C' d,QH w' sq C' (if m=0 then M else ⟨d,0,i⟩ :: M)∧Chg (fun j=>j=sq∨gP C j) w w'∧∀ j,gP C' j→gP C j∨w.heap.size≤j
set_option maxHeartbeats 8000000 in
theorem pnode_any (k q s sq cc i:Nat) (C Cq:Option Addr) (N:List NdP) (K:Value) (px py lv:Int) (M:List En) (w:World) (h:Sk w k q sq px py lv K) (hg:PtG w s q C cc N) (hi:i < N.length) (hN:N.length≤1000000) (hq:QH w sq Cq M) (hM:M.length≤500000):
  Calls Tryz.prog 88 #[.pointer (some ⟨k,0,none⟩), .int .i64 (i:Nat)] w (NodPost sq Cq M (ndAt N i).1.many i w):=by
 obtain ⟨g,rfl,hqg,hgl⟩:=hg.g (by omega)
 have hql:=hg.lt
 have q1:=hg.c1
 have d:=fun (j:Nat) (hj:j < 10) (v:Value) (hv:(ndC (ndAt N i))[j]? = some v)=>hg.cells hi hj hv
 obtain ⟨⟨⟨nl,nx,ny,nk,nm,ns,nr⟩,np⟩,hnd⟩:∃ z:NdP,ndAt N i=z:=⟨_,rfl⟩
 rw [hnd] at d ⊢
 have PF:=Lib.hid (fun (Y:World) (hY:Below w.heap.size w Y)=>far_any k q sq px py lv K nl nx ny Y (h.chg (X:=fun _=>False) (Chg.of hY) (fun e=>e)))
 have HQ:=Lib.hid (And.intro hq hM)
 have hkl:=h.lt
 have c0:=h.c0
 have c5:=h.c5
 have d0:w.cell? ⟨g,i*10+0,none⟩=some (.int .i64 nl):=d 0 (by decide) _ rfl
 have d1:w.cell? ⟨g,i*10+1,none⟩=some (.int .i64 nx):=d 1 (by decide) _ rfl
 have d2:w.cell? ⟨g,i*10+2,none⟩=some (.int .i64 ny):=d 2 (by decide) _ rfl
 have d3:w.cell? ⟨g,i*10+3,none⟩=some (.int .i64 (nk 0)):=d 3 (by decide) _ rfl
 have d4:w.cell? ⟨g,i*10+4,none⟩=some (.int .i64 (nk 1)):=d 4 (by decide) _ rfl
 have d5:w.cell? ⟨g,i*10+5,none⟩=some (.int .i64 (nk 2)):=d 5 (by decide) _ rfl
 have d6:w.cell? ⟨g,i*10+6,none⟩=some (.int .i64 (nk 3)):=d 6 (by decide) _ rfl
 have d7:w.cell? ⟨g,i*10+7,none⟩=some (.int .i64 (nm:Nat)):=d 7 (by decide) _ rfl
 have d8:w.cell? ⟨g,i*10+8,none⟩=some (.bool ns):=d 8 (by decide) _ rfl
 have d9:w.cell? ⟨g,i*10+9,none⟩=some (.slice np.1 nr.length np.2):=d 9 (by decide) _ rfl
 simp only [Nat.add_zero] at d0
 obtain ⟨pa,pc⟩:=np
 obtain ⟨rn,hrn⟩:∃ n,nr.length=n:=⟨_,rfl⟩
 obtain ⟨n,hn⟩:∃ n,N.length=n:=⟨_,rfl⟩
 simp only [hrn] at d9
 rw [hn] at q1 hi hN
 generalize nk 0=k0 at d3
 generalize nk 1=k1 at d4
 generalize nk 2=k2 at d5
 generalize nk 3=k3 at d6
 clear h hg hq hnd d hrn hn hM
 generalize farV px py lv nl nx ny=dd at PF
 cases nm with
 | zero=>
  have d7:w.cell? ⟨g,i*10+7,none⟩=some (.int .i64 0):=d7
  show Calls _ _ _ _ (NodPost sq Cq M 0 i w)
  go_enter Tryz.func88,Tryz.ntmps88
  go_wp2_with fail
  refine bodyPost_end (v := .tuple #[]) (by first|rfl|kernel_rfl) rfl ⟨rfl,Cq,0,HQ.out.1.keep q9l,Chg.of q9l,fun j hj => .inl hj⟩
 | succ nm=>
  show Calls _ _ _ _ (NodPost sq Cq M (nm+1) i w)
  generalize hPost:NodPost sq Cq M (nm+1) i w=Post
  have hdm:decide ((0:Int) < ((nm+1:Nat):Int))=true:=decide_eq_true (by omega)
  go_enter Tryz.func88,Tryz.ntmps88
  go_wp2_with fail
  (refine wp_region_later_tail 10 (w.heap.size+1) (by kernel_rfl) (by kernel_rfl) (by go_size) ?_;simp only [List.take_succ_cons,List.take_zero,List.drop_succ_cons,List.drop_zero];(repeat (go_big_quiet_step ((first|(go_at_call 121;exact Later.call _ (Nat.le_trans (by go_size) (Later.is _).size) (PF.out _ q9l))))));refine wpQuiet_nil ?_;intro Xq hlXq hmXq)
  have hbq:Below w.heap.size w Xq.w:=q9l
  go_wp2_with fail
  go_at_call 86
  refine (qpush_any sq Cq M ⟨dd,0,i⟩ _ (HQ.out.1.keep hbq) HQ.out.2).mono ?_
  rintro e w2 ⟨rfl,C',hq,hc,hC⟩
  have HE:=Lib.hid (show Post (.returned (.tuple #[])) w2 by
   rw [← hPost]
   exact ⟨rfl,C',dd,by rw [if_neg (Nat.succ_ne_zero _)];exact hq,(Chg.of (X:=fun j=>j=sq∨gP Cq j) hbq).trans hc (fun k hk => .inl hk),fun j hj=>(hC j hj).elim .inl (fun h9 => .inr (Nat.le_trans hbq.size h9))⟩)
  clear hq hc hC
  go_wp2_with fail
  exact bodyPost_end (v := .tuple #[]) (by first|rfl|kernel_rfl) rfl HE.out
end Go.Proofs.YthlijfligikciaaGreat
namespace Go.Proofs.YthlijfligikciaaGreat
open Go
set_option linter.unusedSimpArgs false
set_option linter.unusedVariables false
def QT.wt:QT→Nat
 | .leaf _ rs=>1+2*rs.length
 | .node _ k=>1+((k 0).wt+((k 1).wt+((k 2).wt+(k 3).wt)))
inductive It where
 | nd (d:Int) (t:QT)
 | rc (d:Int) (r:Rc)
def It.en:It→En
 | .nd d t=>⟨d,0,(t.at_:Nat)⟩
 | .rc d r=>⟨d,1,r.id⟩
def It.rs (kp:Rc→Bool):It→List Rc
 | .nd _ t=>t.rs.filter kp
 | .rc _ r=>[r]
def It.wt:It→Nat
 | .nd _ t=>t.wt
 | .rc _ _=>1
def wts (I:List It):Nat:=(I.map It.wt).sum
def itsR (kp:Rc→Bool) (I:List It):List Rc:=I.flatMap (It.rs kp)
def ItOk (N:List NdP) (kp:Rc→Bool) (R:List Rc):It→Prop
 | .nd _ t=>(∃ l x y,Holds N l x y t∧∀ r ∈ t.rs,r ∈ R)
 | .rc _ r=>r ∈ R∧kp r=true
theorem qwt_pos (t:QT):1≤t.wt:=by cases t <;> simp [QT.wt] <;> omega
theorem iwt_pos (i:It):1≤i.wt:=by
 cases i with
 | nd d t=>exact qwt_pos t
 | rc d r=>exact Nat.le_refl _
theorem wts_nil:wts []=0:=rfl
theorem wts_cons (i:It) (I:List It):wts (i :: I)=i.wt+wts I:=by simp [wts]
theorem wts_app (I J:List It):wts (I ++ J)=wts I+wts J:=by simp [wts]
theorem wts_len:∀ I:List It,I.length≤wts I
 | []=>Nat.le_refl _
 | i :: I=>by
  have:=wts_len I
  have:=iwt_pos i
  rw [wts_cons,List.length_cons]
  omega
theorem wts_perm {I J:List It} (h:I.Perm J):wts I=wts J:=by
 unfold wts
 exact (h.map It.wt).sum_nat
theorem wt_le:∀ t:QT,t.wt≤t.ix.length+2*t.rs.length
 | .leaf i rs=>by simp [QT.wt,QT.ix,QT.rs]
 | .node i k=>by
  have h0:=wt_le (k 0)
  have h1:=wt_le (k 1)
  have h2:=wt_le (k 2)
  have h3:=wt_le (k 3)
  simp only [QT.wt,QT.ix,QT.rs,List.length_cons,List.length_append]
  omega
theorem its_nil (kp:Rc→Bool):itsR kp []=[]:=rfl
theorem its_cons (kp:Rc→Bool) (i:It) (I:List It):itsR kp (i :: I)=i.rs kp ++ itsR kp I:=by simp [itsR]
theorem its_app (kp:Rc→Bool) (I J:List It):itsR kp (I ++ J)=itsR kp I ++ itsR kp J:=by simp [itsR]
theorem its_perm {kp:Rc→Bool} {I J:List It} (h:I.Perm J):(itsR kp I).Perm (itsR kp J):=by
 unfold itsR
 exact h.flatMap_right _
theorem its_pop {I:List It} {M M':List En} {e:En} (h:M.Perm (I.map It.en)) (hp:M.Perm (e :: M')):∃ i I',I.Perm (i :: I')∧i.en=e∧M'.Perm (I'.map It.en):=by
 have hm:e ∈ I.map It.en:=h.mem_iff.1 (hp.mem_iff.2 (List.mem_cons_self ..))
 obtain ⟨i,hi,rfl⟩:=List.mem_map.1 hm
 obtain ⟨s,t,rfl⟩:=List.append_of_mem hi
 refine ⟨i,s ++ t,List.perm_middle,rfl,?_⟩
 have h1:=(hp.symm.trans h).trans ((List.perm_middle (a:=i) (l₁:=s) (l₂:=t)).map It.en)
 exact (List.perm_cons _).1 h1
theorem its_out {kp:Rc→Bool} {out R:List Rc} {I I':List It} {d:Int} {r:Rc} (h:(out ++ itsR kp I).Perm R) (hp:I.Perm (.rc d r :: I')):((out ++ [r]) ++ itsR kp I').Perm R:=by
 refine List.Perm.trans ?_ h
 rw [List.append_assoc]
 refine List.Perm.append_left _ ?_
 have:=(its_perm (kp:=kp) hp).symm
 rw [its_cons] at this
 exact this
theorem its_open {kp:Rc→Bool} {out R:List Rc} {I I' J:List It} {d:Int} {t:QT} (h:(out ++ itsR kp I).Perm R) (hp:I.Perm (.nd d t :: I')) (hJ:(itsR kp J).Perm (t.rs.filter kp)):(out ++ itsR kp (J ++ I')).Perm R:=by
 refine List.Perm.trans ?_ h
 refine List.Perm.append_left _ ?_
 have h1:=(its_perm (kp:=kp) hp).symm
 rw [its_cons] at h1
 rw [its_app]
 exact (hJ.append_right _).trans h1
theorem ok_perm {N:List NdP} {kp:Rc→Bool} {R:List Rc} {I J:List It} (h:∀ i ∈ I,ItOk N kp R i) (hp:I.Perm J):∀ i ∈ J,ItOk N kp R i:=fun i hi=>h i (hp.mem_iff.2 hi)
theorem filter_snoc {kp:Rc→Bool} (L:List Rc) (r:Rc):(L ++ [r]).filter kp=L.filter kp ++ (if kp r then [r] else []):=by
 rw [List.filter_append]
 cases h:kp r <;> simp [h]
end Go.Proofs.YthlijfligikciaaGreat
namespace Go.Proofs.YthlijfligikciaaGreat
open Go.RowKit Go.Maps
set_option linter.unusedSimpArgs false
set_option linter.unusedVariables false
set_option maxRecDepth 2000
def QX (bt sq:Nat) (C:Option Addr):Nat→Prop:=fun j=>j=bt∨j=sq∨gP C j
structure SkI (T:Nat→(Nat→Prop)→World→Prop) (G0:Nat→Prop) (bt k q s sq cc:Nat) (Ct:Option Addr) (N:List NdP) (px py lv:Int) (K:Value) (n:Nat) (C:Option Addr) (M:List En) (w:World):Prop where
 sk:Sk w k q sq px py lv K
 g:PtG w s q Ct cc N
 qh:QH w sq C M
 t:T n (gU G0 C) w
 kC:∀ j,gP C j→k < j
 g0:∀ x,G0 x→x < w.heap.size
 gs:G0 sq
 bs:bt < sq
 sl:sq < k
 far:∀ j,PX q Ct N j→j < sq∧j≠bt
section
variable {T:Nat→(Nat→Prop)→World→Prop} {G0:Nat→Prop} {bt k q s sq cc n n':Nat} {Ct C C':Option Addr} {N:List NdP} {px py lv:Int} {K:Value} {M M':List En} {w w' w2:World}
theorem SkI.nk (h:SkI T G0 bt k q s sq cc Ct N px py lv K n C M w):¬ QX bt sq C k:=fun e=>by
 have h1:=h.bs
 have h2:=h.sl
 rcases e with e|e|e
 ·omega
 ·omega
 ·have:=h.kC k e;omega
theorem SkI.ng (h:SkI T G0 bt k q s sq cc Ct N px py lv K n C M w):∀ j,PX q Ct N j→¬ QX bt sq C j:=fun j hj e=>by
 have h1:=h.far j hj
 rcases e with e|e|e
 ·exact h1.2 e
 ·omega
 ·have:=h.qh.far j e;omega
theorem SkI.step (h:SkI T G0 bt k q s sq cc Ct N px py lv K n C M w) (hc:Chg (QX bt sq C) w w') (hq:QH w' sq C' M') (ht:T n' (gU G0 C') w') (hC:∀ j,gP C' j→gP C j∨w.heap.size≤j):SkI T G0 bt k q s sq cc Ct N px py lv K n' C' M' w':=
 ⟨h.sk.chg hc h.nk,h.g.chg hc h.ng,hq,ht,fun j hj=>(hC j hj).elim (h.kC j) (fun e=>Nat.lt_of_lt_of_le h.sk.lt e),fun x hx=>Nat.lt_of_lt_of_le (h.g0 x hx) hc.size,h.gs,h.bs,h.sl,h.far⟩
theorem SkI.keep {α:Type} {fk:Nat} {args:α→Array Value} {kp:α→Bool} (EN:Env fk args bt kp T) (h:SkI T G0 bt k q s sq cc Ct N px py lv K n C M w) (hb:Below w.heap.size w w'):SkI T G0 bt k q s sq cc Ct N px py lv K n C M w':=
 h.step (Chg.of hb) (h.qh.keep hb) (EN.below h.t hb) (fun j hj => .inl hj)
theorem SkI.gw (h:SkI T G0 bt k q s sq cc Ct N px py lv K n C M w):∀ x,gU G0 C x→x < w.heap.size:=fun x hx=>hx.elim (h.g0 x) (fun e=>(h.qh.far x e).2)
theorem QX_trans (h1:∀ j,gP C' j→gP C j∨w.heap.size≤j):∀ j,QX bt sq C' j→QX bt sq C j∨w.heap.size≤j:=fun j hj=>by
 rcases hj with e|e|e
 ·exact .inl (.inl e)
 ·exact .inl (.inr (.inl e))
 ·exact (h1 j e).elim (fun e => .inl (.inr (.inr e))) .inr
end
theorem record_ski {wb vb zb bt:Nat} {kp:Rc→Bool} {T:Nat→(Nat→Prop)→World→Prop} (EN:Env 44 (fun r:Rc=>#[.agg #[.int .i64 r.id, .int .i64 r.x, .int .i64 r.y, .int .i64 r.label], .pointer (some ⟨wb,0,none⟩), .pointer (some ⟨vb,0,none⟩), .pointer (some ⟨zb,0,none⟩)]) bt kp T) {G0:Nat→Prop} {n k q s sq cc:Nat} {Ct C:Option Addr} {N:List NdP} {M:List En} {px py lv:Int} (r:Rc) {w:World}
  (h:SkI T G0 bt k q s sq cc Ct N px py lv (.func (.func 44) #[] #[.pointer (some ⟨wb,0,none⟩), .pointer (some ⟨vb,0,none⟩), .pointer (some ⟨zb,0,none⟩)]) n C M w) (hn:n≤500000) (hM:M.length≤400000) (hlv:0≤lv∧lv≤16) (hf:fitsB r.x r.y=true):
  Calls Tryz.prog 123 #[.pointer (some ⟨k,0,none⟩), .agg #[.int .i64 r.id, .int .i64 r.x, .int .i64 r.y, .int .i64 r.label]] w fun e w'=>e = .returned (.tuple #[])∧∃ C' d,SkI T G0 bt k q s sq cc Ct N px py lv (.func (.func 44) #[] #[.pointer (some ⟨wb,0,none⟩), .pointer (some ⟨vb,0,none⟩), .pointer (some ⟨zb,0,none⟩)]) (n+2) C' (if kp r then ⟨d,1,r.id⟩ :: M else M) w'∧Chg (QX bt sq C) w w'∧∀ j,gP C' j→gP C j∨w.heap.size≤j:=by
 refine (record_any wb vb zb bt kp T EN n (gU G0 C) k q sq C M px py lv r w h.t h.gw hn h.sk (fun e=>h.nk (.inl e)) h.qh hM (fun j hj=>hj.elim (fun e => .inl (by rw [e];exact h.gs)) .inr) hlv hf).mono ?_
 rintro e w' ⟨rfl,C',d,hq,ht,hc,hC⟩
 exact ⟨rfl,C',d,h.step hc hq (EN.step ht (fun _ _ _=>rfl) (Nat.le_refl _) (fun x hx => .inl (hx.elim (fun e => .inl (.inl e)) .inr))) hC,hc,hC⟩
theorem node_ski {α:Type} {fk:Nat} {args:α→Array Value} {bt:Nat} {kp:α→Bool} {T:Nat→(Nat→Prop)→World→Prop} (EN:Env fk args bt kp T) {G0:Nat→Prop} {n k q s sq cc:Nat} {Ct C:Option Addr} {N:List NdP} {M:List En} {px py lv:Int} {K:Value} (i:Nat) {w:World}
  (h:SkI T G0 bt k q s sq cc Ct N px py lv K n C M w) (hi:i < N.length) (hN:N.length≤1000000) (hM:M.length≤500000):
  Calls Tryz.prog 88 #[.pointer (some ⟨k,0,none⟩), .int .i64 (i:Nat)] w fun e w'=>e = .returned (.tuple #[])∧∃ C' d,SkI T G0 bt k q s sq cc Ct N px py lv K n C' (if (ndAt N i).1.many=0 then M else ⟨d,0,i⟩ :: M) w'∧Chg (QX bt sq C) w w'∧∀ j,gP C' j→gP C j∨w.heap.size≤j:=by
 refine (pnode_any k q s sq cc i Ct C N K px py lv M w h.sk h.g hi hN h.qh hM).mono ?_
 rintro e w' ⟨rfl,C',d,hq,hc,hC⟩
 have hc':Chg (QX bt sq C) w w':=hc.mono (fun j hj => .inl (.inr hj))
 exact ⟨rfl,C',d,h.step hc' hq (EN.step h.t (fun j hj hjs=>hc.block j hjs (fun e=>hj (e.elim (fun e => .inl (by rw [e];exact h.gs)) .inr))) hc.size (fun x hx=>hx.elim (fun e => .inl (.inl e)) (fun e=>(hC x e).elim (fun e => .inl (.inr e)) .inr))) hC,hc',hC⟩
end Go.Proofs.YthlijfligikciaaGreat
