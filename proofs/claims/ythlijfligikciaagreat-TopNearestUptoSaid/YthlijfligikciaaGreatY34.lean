/- A part of one proof: PlE PlF PgA. No condition. -/
import Derived.Test.YthlijfligikciaaGreatY33
import Derived.Test.YthlijfligikciaaGreatY31
namespace Go.Proofs.YthlijfligikciaaGreat
open Go.RowKit Go.Maps
set_option linter.unusedSimpArgs false
set_option linter.unusedVariables false
set_option maxRecDepth 2000
def LvsPost (G:Nat→Prop) (lo qt bt kt:Nat) (L:List Rl) (f fq m:Nat) (id lv x0 y0 x1 y1 px py:Int) (w:World) (e:Ending) (w':World):Prop:=
 e = .returned (.tuple #[])∧∃ C' cq',Fd w' f fq m 1 (fun k=>if k=id then some (.agg #[.int .i64 id, .int .i64 lv, .int .i64 x0, .int .i64 y0, .int .i64 x1, .int .i64 y1]) else none) C' 1 cq' [.int .u64 (distI x0 y0 x1 y1 px py), .int .u64 0, .int .i64 id]∧Tb w' lo qt bt (kt+11) L (gU G C')∧Chg (fun j=>j=bt∨j=m∨j=fq) w w'∧∀ j,gP C' j→w.heap.size≤j
set_option maxHeartbeats 16000000 in
theorem levels_first (G:Nat→Prop) (lo qt bt kt:Nat) (L:List Rl) (Pc:Option Addr) (role tier id x y label z:Int) (g:Gr) (wb vb pb mb fb f fq m:Nat) (q s cc cd bd:Nat) (C D:Option Addr) (px py lv:Int) (w:World) (ht:Tb w lo qt bt kt L G) (hgw:∀ x,G x→x < w.heap.size) (hkt:kt+10 < 1000000) (hcnt:cntB L≤1048576) (hn1:L.length≤1000000) (hpb:patsB L≤100000000000000) (hrt:(0≤role∧role≤7)∧0≤tier∧tier≤7) (hw:Wb w wb (some ⟨q,0,none⟩) Pc qt) (hv:Vb w vb role tier g) (hB:Bb w pb mb fb f px py 1)
  (hne:wb≠bt∧vb≠bt∧pb≠bt∧mb≠bt∧fb≠bt∧f≠bt)
  (hsee:seeB L role tier g x y label=true) (hzo:zoomT L role tier label x y=z) (hl9:seeL L role tier g x y label=lv) (hf:fitsB x y=true) (hpf:fitsB px py=true) (hp:Pt1 w s q C cc 1 (.slice D 1 cd)) (hD:w.ownsRow bd 32 4 (.slice D 1 cd) 1 [.int .i64 id, .int .i64 x, .int .i64 y, .int .i64 label]) (hm:M1 w s 1 (fun k=>if k=id then some (.agg #[.int .i64 id, .int .i64 x, .int .i64 y, .int .i64 label]) else none)) (hid:wf64 id) (hqb:q≠bt∧s≠bt∧(∀ k,gP C k→k≠bt)∧∀ k,gP D k→k≠bt)
  (hF:Fd w f fq m 0 (fun _=>none) none 0 0 []) (hG:G fq∧G m) (hxs:∀ xs,xs.Pairwise (· < ·)→LevL L role tier 8 xs→xs=[z]) (hlv0:lv≠0):
  Calls Tryz.prog 37 #[(.agg #[.pointer (some ⟨q,0,none⟩), .pointer Pc, .pointer (some ⟨qt,0,none⟩)]),(.agg #[.int .i64 role, .int .i64 tier, .int .i64 g.ops, .int .i64 g.zoom, .int .i64 g.a, .int .i64 g.b, .int .i64 g.c, .int .i64 g.d, .bool g.void, .int .i64 g.til]), .func (.func 43) #[] #[.pointer (some ⟨wb,0,none⟩), .pointer (some ⟨vb,0,none⟩), .pointer (some ⟨pb,0,none⟩), .pointer (some ⟨mb,0,none⟩), .pointer (some ⟨fb,0,none⟩)]] w (LvsPost G lo qt bt kt L f fq m id lv (x / sd lv*sd lv) (y / sd lv*sd lv) (x / sd lv*sd lv+sd lv - 1) (y / sd lv*sd lv+sd lv - 1) px py w):=by
 have hmin:min z g.zoom=lv:=by rw [← hl9,← hzo];rfl
 have PL:=Lib.hid (fun (Y:World) (hY:Below w.heap.size w Y)=>levels_any G lo qt bt kt L role tier Y (ht.keep hY) (fun x e=>Nat.lt_of_lt_of_le (hgw x e) hY.size) (by omega) hrt.1 hrt.2 hcnt hn1 hpb)
 have pv:=fun (Y:World)=>plevel_any role tier z g Y
 rw [hmin] at pv
 have PV:=Lib.hid pv
 have PN:=Lib.hid (fun (Y:World) (hT:Tb Y lo qt bt (kt+8) L G) (hY:Chg (fun j=>j=bt) w Y)=>near1_first G lo qt bt (kt+8) L Pc role tier id x y label z g wb vb pb mb fb f fq m q s cc cd bd C D px py lv Y hT (fun x e=>Nat.lt_of_lt_of_le (hgw x e) hY.size) (by omega) hcnt hn1 (hw.chg hY hne.1) (hv.chg hY hne.2.1) (hB.chg hY hne.2.2.1 hne.2.2.2.1 hne.2.2.2.2.1) hne hsee hzo hl9 hf hpf (hp.chg hY hqb.1 (fun k hk=>hqb.2.2.1 k hk)) (own_chg hD hY (fun k hk=>hqb.2.2.2 k (by rw [gOf_own] at hk;exact hk))) (hm.chg hY hqb.2.1) hid hqb (hF.chg hY hne.2.2.2.2.2 (by have:=ht.gq fq hG.1;show ¬ fq=bt;omega) (by have:=ht.gq m hG.2;show ¬ m=bt;omega) (fun k hk=>by cases hk)) hG)
 have HX:=Lib.hid hxs
 have hbl:=ht.ltb
 have hz0:(lv == 0)=false:=by simpa using hlv0
 have HF:=Lib.hid (show ∀ w1 w2,Chg (fun j=>j=bt) w w1→NearPost G lo qt bt (kt+8) L f fq m id lv (x / sd lv*sd lv) (y / sd lv*sd lv) (x / sd lv*sd lv+sd lv - 1) (y / sd lv*sd lv+sd lv - 1) px py w1 (.returned (.tuple #[])) w2→LvsPost G lo qt bt kt L f fq m id lv (x / sd lv*sd lv) (y / sd lv*sd lv) (x / sd lv*sd lv+sd lv - 1) (y / sd lv*sd lv+sd lv - 1) px py w (.returned (.tuple #[])) w2 from
  fun w1 w2 h1 ⟨_,C',cq',hF',hT',hc',hC'⟩=>⟨rfl,C',cq',hF',hT',(h1.mono (X':=fun j=>j=bt∨j=m∨j=fq) (fun k hk => .inl (.inl hk))).trans hc' (fun k hk => .inl hk),fun j hj=>Nat.le_trans h1.size (hC' j hj)⟩)
 have HE0:=Lib.hid (show ∀ e w1 w2,NearPost G lo qt bt (kt+8) L f fq m id lv (x / sd lv*sd lv) (y / sd lv*sd lv) (x / sd lv*sd lv+sd lv - 1) (y / sd lv*sd lv+sd lv - 1) px py w1 e w2→e = .returned (.tuple #[]) from fun e w1 w2 h=>h.1)
 generalize LvsPost G lo qt bt kt L f fq m id lv (x / sd lv*sd lv) (y / sd lv*sd lv) (x / sd lv*sd lv+sd lv - 1) (y / sd lv*sd lv+sd lv - 1) px py w=Post at HF ⊢
 generalize NearPost G lo qt bt (kt+8) L f fq m id lv (x / sd lv*sd lv) (y / sd lv*sd lv) (x / sd lv*sd lv+sd lv - 1) (y / sd lv*sd lv+sd lv - 1) px py=NP at PN HF HE0
 clear pv ht hgw hkt hcnt hn1 hpb hw hv hB hne hsee hzo hl9 hf hpf hp hD hm hid hqb hF hG hxs hlv0 hmin hrt
 go_enter Tryz.func37,Tryz.ntmps37
 go_wp2_with fail
 go_step3
 go_wp2_with fail
 go_step3
 go_wp2_with fail
 go_at_call 82
 have hb2:Below w.heap.size w ((w.alloc (.cells #[.pointer (some ⟨q,0,none⟩), .pointer Pc, .pointer (some ⟨qt,0,none⟩)] 38)).alloc (.cells #[.int .i64 role, .int .i64 tier, .int .i64 g.ops, .int .i64 g.zoom, .int .i64 g.a, .int .i64 g.b, .int .i64 g.c, .int .i64 g.d, .bool g.void, .int .i64 g.til] 28)):=((Below.refl _ _).alloc (Nat.le_refl _) _).alloc (by simp) _
 refine (PL.out _ hb2).mono ?_
 rintro e W ⟨⟨C1,cc1,xs,rfl,hints,hfar,hpw,hlev⟩,hT,hg⟩
 obtain rfl:=HX.out xs hpw hlev
 have hcW:Chg (fun j=>j=bt) w W:=(Chg.of (X:=fun j=>j=bt) hb2).trans (Chg.ofGrown (X:=fun j=>j=bt) hg (fun k hk=>by injection hk with hk;exact hk.symm)) (fun j hj => .inl hj)
 obtain ⟨bz,oz,hCz,hbz,hcz⟩:=hints (by simp)
 subst hCz
 have z0:W.cell? ⟨bz,oz,none⟩=some (.int .i64 z):=hcz 0 (by simp)
 have hv8:∀ i,i < 10→W.cell? ⟨w.heap.size+1,i,none⟩=((w.alloc (.cells #[.pointer (some ⟨q,0,none⟩), .pointer Pc, .pointer (some ⟨qt,0,none⟩)] 38)).alloc (.cells #[.int .i64 role, .int .i64 tier, .int .i64 g.ops, .int .i64 g.zoom, .int .i64 g.a, .int .i64 g.b, .int .i64 g.c, .int .i64 g.d, .bool g.void, .int .i64 g.til] 28)).cell? ⟨w.heap.size+1,i,none⟩:=fun i _=>hg.cell_far ⟨w.heap.size+1,i,none⟩ (by simp) (fun e=>by injection e with e;have e':w.heap.size+1=bt:=e;omega)
 have v0:W.cell? ⟨w.heap.size+1,0,none⟩=some (.int .i64 role):=(hv8 0 (by decide)).trans (by go_simp)
 have v1:W.cell? ⟨w.heap.size+1,1,none⟩=some (.int .i64 tier):=(hv8 1 (by decide)).trans (by go_simp)
 have v2:W.cell? ⟨w.heap.size+1,2,none⟩=some (.int .i64 g.ops):=(hv8 2 (by decide)).trans (by go_simp)
 have v3:W.cell? ⟨w.heap.size+1,3,none⟩=some (.int .i64 g.zoom):=(hv8 3 (by decide)).trans (by go_simp)
 have v4:W.cell? ⟨w.heap.size+1,4,none⟩=some (.int .i64 g.a):=(hv8 4 (by decide)).trans (by go_simp)
 have v5:W.cell? ⟨w.heap.size+1,5,none⟩=some (.int .i64 g.b):=(hv8 5 (by decide)).trans (by go_simp)
 have v6:W.cell? ⟨w.heap.size+1,6,none⟩=some (.int .i64 g.c):=(hv8 6 (by decide)).trans (by go_simp)
 have v7:W.cell? ⟨w.heap.size+1,7,none⟩=some (.int .i64 g.d):=(hv8 7 (by decide)).trans (by go_simp)
 have v8:W.cell? ⟨w.heap.size+1,8,none⟩=some (.bool g.void):=(hv8 8 (by decide)).trans (by go_simp)
 have v9:W.cell? ⟨w.heap.size+1,9,none⟩=some (.int .i64 g.til):=(hv8 9 (by decide)).trans (by go_simp)
 have HW:=Lib.hid (And.intro hT hcW)
 have hsW:=hg.size
 simp only [World.size_alloc] at hsW
 clear hints hfar hpw hlev hT hg hcW hcz hv8 hb2
 simp only [List.length_cons,List.length_nil]
 go_wp2_with fail
 go_loopw [17] (fun i wr=>∃ n:Nat,n≤1∧i = .int .i64 n∧Hid ((n=0→wr=W)∧(n=1→Post (.returned (.tuple #[])) wr))) (fun i _=>1 - (intOf i).toNat)
 case atStart=>exact ⟨0,by decide,rfl,⟨fun _=>rfl,fun e=>by cases e⟩⟩
 case round=>
  obtain ⟨n,hn,rfl,hrel⟩:=hrel
  match n,hn with
  | 0,_=>
   obtain rfl:=hrel.out.1 rfl
   clear hrel hn
   go_wp2_with (first
    | (go_at_call 27;refine (PV.out _).mono ?_;rintro e w' ⟨rfl,hb⟩;obtain ⟨X1,rfl,hl1,hm1⟩:=later _ hb (Nat.le_refl _);clear hb;(try simp only [q9A,q9B,q9D] at hm1 hl1)))
   have hbX:Below wr.heap.size wr X1.w:=q9l
   refine (PN.out _ (HW.out.1.keep hbX) (HW.out.2.trans (Chg.of (X:=fun j=>j=bt) hbX) (fun j hj => .inl hj))).mono ?_
   intro e w9 hnp
   obtain rfl:=HE0.out _ _ _ hnp
   have HE:=Lib.hid (HF.out _ _ (HW.out.2.trans (Chg.of (X:=fun j=>j=bt) hbX) (fun j hj => .inl hj)) hnp)
   clear hnp hbX
   go_wp2_with fail
   go_roundw
   case rel=>(repeat apply Exists.intro);exact ⟨⟨1,by decide,by go_num,⟨fun e=>(by cases e),fun _=>HE.out⟩⟩,rfl⟩
   case measure=>show 1 - 1 < 1 - 0;decide
  | 1,_=>
   have HE:=Lib.hid (hrel.out.2 rfl)
   clear hrel
   go_wp2_with fail
   (try rw [Exit.noGoto_ret])
   exact bodyPost_end (v := .tuple #[]) (by first|rfl|kernel_rfl) rfl HE.out
set_option maxHeartbeats 8000000 in
theorem pask_any (q qc qt:Nat) (role tier m:Int) (g:Gr) (r:Bool) (w:World) (hm:0≤m∧m≤64):
  Calls Tryz.prog 35 #[(.agg #[.pointer (some ⟨q,0,none⟩), .pointer (some ⟨qc,0,none⟩), .pointer (some ⟨qt,0,none⟩)]),(.agg #[.int .i64 role, .int .i64 tier, .int .i64 g.ops, .int .i64 g.zoom, .int .i64 g.a, .int .i64 g.b, .int .i64 g.c, .int .i64 g.d, .bool g.void, .int .i64 g.til]), .int .i64 m, .bool r] w fun e w'=>e = .returned (.int .i64 (if (rightW role tier g && r)=true then 0 else 1))∧Below w.heap.size w w':=by
 have p1:=fun (Y:World)=>pright_any role tier g Y
 obtain ⟨d,hd⟩:∃ d,rightW role tier g=d:=⟨_,rfl⟩
 rw [hd] at p1
 rw [hd]
 have P1:=Lib.hid p1
 have h0:decide (m < 0)=false:=decide_eq_false (by omega)
 have h1:decide (64 < m)=false:=decide_eq_false (by omega)
 clear p1 hd
 cases d with
 | false=>
  go_enter Tryz.func35,Tryz.ntmps35
  go_wp2_with (first
   | (go_at_call 26;refine (P1.out _).mono ?_;rintro e w' ⟨rfl,hb⟩;obtain ⟨X1,rfl,hl1,hm1⟩:=later _ hb (Nat.le_refl _);clear hb;(try simp only [q9A,q9B,q9D] at hm1 hl1)))
  go_ret
  exact ⟨rfl,q9l⟩
 | true=>
  cases r with
  | false=>
   go_enter Tryz.func35,Tryz.ntmps35
   go_wp2_with (first
    | (go_at_call 26;refine (P1.out _).mono ?_;rintro e w' ⟨rfl,hb⟩;obtain ⟨X1,rfl,hl1,hm1⟩:=later _ hb (Nat.le_refl _);clear hb;(try simp only [q9A,q9B,q9D] at hm1 hl1)))
   go_ret
   exact ⟨rfl,q9l⟩
  | true=>
   go_enter Tryz.func35,Tryz.ntmps35
   go_wp2_with (first
    | (go_at_call 26;refine (P1.out _).mono ?_;rintro e w' ⟨rfl,hb⟩;obtain ⟨X1,rfl,hl1,hm1⟩:=later _ hb (Nat.le_refl _);clear hb;(try simp only [q9A,q9B,q9D] at hm1 hl1)))
   go_ret
   exact ⟨rfl,q9l⟩
set_option maxHeartbeats 16000000 in
theorem near_first (lo qt bt kt:Nat) (L:List Rl) (role tier id x y label z:Int) (g:Gr) (q qc s cc cd bd:Nat) (C D:Option Addr) (px py lv:Int) (w:World) (ht:Tb w lo qt bt kt L) (hkt:kt+10 < 1000000) (hcnt:cntB L≤1048576) (hn1:L.length≤1000000) (hpb:patsB L≤100000000000000) (hrt:(0≤role∧role≤7)∧0≤tier∧tier≤7)
  (hsee:seeB L role tier g x y label=true) (hzo:zoomT L role tier label x y=z) (hl9:seeL L role tier g x y label=lv) (hf:fitsB x y=true) (hpf:fitsB px py=true) (hp:Pt1 w s q C cc 1 (.slice D 1 cd)) (hD:w.ownsRow bd 32 4 (.slice D 1 cd) 1 [.int .i64 id, .int .i64 x, .int .i64 y, .int .i64 label]) (hm:M1 w s 1 (fun k=>if k=id then some (.agg #[.int .i64 id, .int .i64 x, .int .i64 y, .int .i64 label]) else none)) (hid:wf64 id) (hqb:q≠bt∧s≠bt∧(∀ k,gP C k→k≠bt)∧∀ k,gP D k→k≠bt)
  (hxs:∀ xs,xs.Pairwise (· < ·)→LevL L role tier 8 xs→xs=[z]) (hlv0:lv≠0):
  Calls Tryz.prog 12 #[(.agg #[.pointer (some ⟨q,0,none⟩), .pointer (some ⟨qc,0,none⟩), .pointer (some ⟨qt,0,none⟩)]),(.agg #[.int .i64 role, .int .i64 tier, .int .i64 g.ops, .int .i64 g.zoom, .int .i64 g.a, .int .i64 g.b, .int .i64 g.c, .int .i64 g.d, .bool g.void, .int .i64 g.til]), .agg #[.int .i64 px, .int .i64 py], .int .i64 1] w fun e w'=>∃ A ca x0 y0 x1 y1,(x0=x / sd lv*sd lv∧y0=y / sd lv*sd lv∧x1=x / sd lv*sd lv+sd lv - 1∧y1=y / sd lv*sd lv+sd lv - 1)∧e = .returned (.tuple #[.slice A 1 ca, .int .i64 0])∧w'.ownsRow w.heap.size 48 6 (.slice A 1 ca) 1 [.int .i64 id, .int .i64 lv, .int .i64 x0, .int .i64 y0, .int .i64 x1, .int .i64 y1]∧Chg (fun j=>j=bt) w w':=by
 have hrw:rightW role tier g=true:=by
  unfold seeB at hsee
  simp only [Bool.and_eq_true] at hsee
  exact hsee.1.1
 have pa:=fun (Y:World)=>pask_any q qc qt role tier 1 g true Y (by decide)
 rw [hrw] at pa
 simp only [Bool.and_self,if_true] at pa
 have PA:=Lib.hid pa
 have pf:=fun (Y:World)=>fits_any px py Y
 rw [hpf] at pf
 have PF:=Lib.hid pf
 have PB:=Lib.hid (fun (Y:World)=>begin_any Y)
 have PL:=Lib.hid (fun (G:Nat→Prop) (wb vb pb mb fb f fq m:Nat) (Y:World) (hY:Below w.heap.size w Y) (hT:Tb Y lo qt bt kt L G) (hgw:∀ x,G x→x < Y.heap.size) (hw:Wb Y wb (some ⟨q,0,none⟩) (some ⟨qc,0,none⟩) qt) (hv:Vb Y vb role tier g) (hB:Bb Y pb mb fb f px py 1) (hne:wb≠bt∧vb≠bt∧pb≠bt∧mb≠bt∧fb≠bt∧f≠bt) (hF:Fd Y f fq m 0 (fun _=>none) none 0 0 []) (hG:G fq∧G m)=>levels_first G lo qt bt kt L (some ⟨qc,0,none⟩) role tier id x y label z g wb vb pb mb fb f fq m q s cc cd bd C D px py lv Y hT hgw hkt hcnt hn1 hpb hrt hw hv hB hne hsee hzo hl9 hf hpf (hp.keep hY) (own_keep hD hY) (hm.chg (X:=fun _=>False) (Chg.of hY) (fun e=>e)) hid hqb hF hG hxs hlv0)
 have HT:=Lib.hid ht
 have hbl:=ht.ltb
 have hqt:=ht.lt
 obtain ⟨x0,hx0⟩:∃ c,x / sd lv*sd lv=c:=⟨_,rfl⟩
 obtain ⟨y0,hy0⟩:∃ c,y / sd lv*sd lv=c:=⟨_,rfl⟩
 rw [hx0,hy0] at PL ⊢
 obtain ⟨x1,hx1⟩:∃ c,x0+sd lv - 1=c:=⟨_,rfl⟩
 obtain ⟨y1,hy1⟩:∃ c,y0+sd lv - 1=c:=⟨_,rfl⟩
 rw [hx1,hy1] at PL ⊢
 unfold LvsPost at PL
 clear pa pf ht hkt hcnt hn1 hpb hrt hsee hzo hl9 hf hpf hp hD hm hqb hxs hlv0 hrw hx0 hy0 hx1 hy1
 go_enter Tryz.func12,Tryz.ntmps12
 go_wp2_with fail
 (refine wp_region_later (w.heap.size+4) (by kernel_rfl) (by kernel_rfl) (by go_size) ?_;(repeat (go_big_quiet_step ((first|(go_at_call 10;exact Later.call _ (Nat.le_trans (by go_size) (Later.is _).size) (PF.out _))|(go_at_call 35;exact Later.call _ (Nat.le_trans (by go_size) (Later.is _).size) (PA.out _))))));refine wpQuiet_nil ?_;intro Xq hlXq hmXq)
 go_wp2_with fail
 go_at_call 36
 refine (PB.out _).mono ?_
 rintro e w1 ⟨f,fq,m,rfl,hfq,hF,hb1⟩
 have hqs:w.heap.size+4≤Xq.w.heap.size:=hlXq
 have hbq:Below w.heap.size w Xq.w:=q9l
 have hord:=hF.ord
 have hfl:=hF.lt
 obtain ⟨X1,rfl,hl1,hm1⟩:=later _ hb1 (Nat.le_refl _)
 have HF:=Lib.hid (And.intro hF (And.intro hbq hb1))
 clear hF hb1 hbq
 go_wp2_with fail
 go_at_call 37
 have hbY:Below w.heap.size w (X1.w.alloc (.cells #[.pointer (some ⟨f,0,none⟩)] 93)):=(HF.out.2.1.trans (HF.out.2.2.mono HF.out.2.1.size)).alloc (by omega) _
 have hsY:(X1.w.alloc (.cells #[.pointer (some ⟨f,0,none⟩)] 93)).heap.size=X1.w.heap.size+1:=by simp
 have hw:Wb (X1.w.alloc (.cells #[.pointer (some ⟨f,0,none⟩)] 93)) w.heap.size (some ⟨q,0,none⟩) (some ⟨qc,0,none⟩) qt:=⟨by go_simp,by go_simp,by go_simp⟩
 have hv:Vb (X1.w.alloc (.cells #[.pointer (some ⟨f,0,none⟩)] 93)) (w.heap.size+1) role tier g:=⟨by go_simp,by go_simp,by go_simp,by go_simp,by go_simp,by go_simp,by go_simp,by go_simp,by go_simp,by go_simp⟩
 have hB:Bb (X1.w.alloc (.cells #[.pointer (some ⟨f,0,none⟩)] 93)) (w.heap.size+1+1) (w.heap.size+1+1+1) X1.w.heap.size f px py 1:=⟨by go_simp,by go_simp,by go_simp,by go_simp⟩
 have hF2:=HF.out.1.keep ((Below.refl X1.w.heap.size X1.w).alloc (Nat.le_refl _) (.cells #[.pointer (some ⟨f,0,none⟩)] 93))
 generalize hYY:(X1.w.alloc (.cells #[.pointer (some ⟨f,0,none⟩)] 93))=Y at hbY hsY hw hv hB hF2 ⊢
 have hmb:=hB.m0
 have hfb:=hB.f0
 refine (PL.out (fun j=>j=fq∨j=m) w.heap.size (w.heap.size+1) (w.heap.size+1+1) (w.heap.size+1+1+1) X1.w.heap.size f fq m Y hbY (HT.out.step (fun j _ _ hj=>hbY.block j hj) hbY.size (fun j hj => .inr (by omega))) (fun j hj=>by omega) hw hv hB ⟨by omega,by omega,by omega,by omega,by omega,by omega⟩ hF2 ⟨.inl rfl, .inr rfl⟩).mono ?_
 rintro e w3 ⟨rfl,C',cq',hF3,hT3,hc3,hC3⟩
 have hs3:=hc3.size
 have m3:w3.cell? ⟨w.heap.size+1+1+1,0,none⟩=some (.int .i64 1):=(hc3.cell (p:=⟨w.heap.size+1+1+1,0,none⟩) (by show w.heap.size+1+1+1 < _;omega) (by show ¬ (w.heap.size+1+1+1=bt∨w.heap.size+1+1+1=m∨w.heap.size+1+1+1=fq);omega)).trans hmb
 have f3:w3.cell? ⟨X1.w.heap.size,0,none⟩=some (.pointer (some ⟨f,0,none⟩)):=(hc3.cell (p:=⟨X1.w.heap.size,0,none⟩) (by show X1.w.heap.size < _;omega) (by show ¬ (X1.w.heap.size=bt∨X1.w.heap.size=m∨X1.w.heap.size=fq);omega)).trans hfb
 have PFi:=Lib.hid (ffirst_one f fq m cq' C' (distI x0 y0 x1 y1 px py) id lv x0 y0 x1 y1 w3 hF3 hid)
 have hbs:=hbY.size
 have HC:=Lib.hid (show Chg (fun j=>j=bt) w w3∧(∀ j,gP C' j→w.heap.size≤j) from ⟨(Chg.of (X:=fun j=>j=bt) hbY).trans hc3 (fun j hj=>by rcases hj with e|e|e;exact .inl e;exact .inr (by omega);exact .inr (by omega)),fun j hj=>Nat.le_trans hbs (hC3 j hj)⟩)
 clear hF3 hT3 hc3 hC3 hw hv hB hF2 hbY hmb hfb
 go_wp2_with fail
 refine PFi.out.mono ?_
 rintro e w4 ⟨A,ca,rfl,hown,hc4⟩
 have HE:=Lib.hid (show w4.ownsRow w.heap.size 48 6 (.slice A 1 ca) 1 [.int .i64 id, .int .i64 lv, .int .i64 x0, .int .i64 y0, .int .i64 x1, .int .i64 y1]∧Chg (fun j=>j=bt) w w4 from ⟨own_base hown (by omega),HC.out.1.trans hc4 (fun j hj=>hj.elim (fun e => .inr (by omega)) (fun e => .inr (HC.out.2 j e)))⟩)
 clear hown hc4
 go_wp2_with fail
 refine bodyPost_ret (by simp only [results,Tryz.results12];go_simp;all_goals (first|rfl|simp [sel])) rfl ⟨A,ca,x0,y0,x1,y1,⟨rfl,rfl,rfl,rfl⟩,rfl,HE.out⟩
def lookP (P:List (Int × Sn)) (id:Int):Option Sn:=(P.find? (fun p=>p.2.id == id)).map (·.2)
def entP (P:List (Int × Sn)):List En:=P.map (fun p=>⟨p.1,0,p.2.id⟩)
theorem lookP_cons (p:Int × Sn) (P:List (Int × Sn)):lookP (p :: P)=fun x=>if x=p.2.id then some p.2 else lookP P x:=by
 funext x
 unfold lookP
 rw [List.find?_cons]
 by_cases e:x=p.2.id
 ·subst e;simp
 ·have hb:(p.2.id == x)=false:=by simp;exact fun e'=>e e'.symm
  simp [e,hb]
theorem lookP_none {P:List (Int × Sn)} {id:Int} (h:∀ p ∈ P,p.2.id≠id):lookP P id=none:=by
 unfold lookP
 rw [List.find?_eq_none.2 (fun p hp=>by simpa using h p hp)]
 rfl
theorem lookP_at {P:List (Int × Sn)} {p:Int × Sn} (hn:(P.map (fun p=>p.2.id)).Nodup) (hp:p ∈ P):lookP P p.2.id=some p.2:=by
 induction P with
 | nil=>cases hp
 | cons u P ih=>
  rw [lookP_cons]
  rw [List.map_cons,List.nodup_cons] at hn
  rcases List.mem_cons.1 hp with rfl|hp
  ·simp
  ·have hne:p.2.id≠u.2.id:=fun e=>hn.1 (List.mem_map.2 ⟨p,hp,e⟩)
   simp only [hne,if_false]
   exact ih hn.2 hp
theorem entP_len (P:List (Int × Sn)):(entP P).length=P.length:=by simp [entP]
structure PlI (w:World) (lo qt bt:Nat) (L:List Rl) (f fq m n nf:Nat) (C:Option Addr) (P:List (Int × Sn)):Prop where
 tb:Tb w lo qt bt n L (gU (fun j=>j=fq∨j=m) C)
 fg:Fg w f fq m nf (lookP P) C (entP P)
 nd:(P.map (fun p=>p.2.id)).Nodup
 wf:∀ p ∈ P,wf64 p.2.id
 fb:f≠bt
section
variable {X:Nat→Prop} {w w':World} {lo qt bt f fq m n n' nf:Nat} {L:List Rl} {C C':Option Addr} {P:List (Int × Sn)}
theorem PlI.nbt (h:PlI w lo qt bt L f fq m n nf C P):bt < fq∧bt < m∧∀ j,gP C j→bt < j:=⟨(h.tb.gq fq (.inl (.inl rfl))).2,(h.tb.gq m (.inl (.inr rfl))).2,fun j hj=>(h.tb.gq j (.inr hj)).2⟩
theorem PlI.gw (h:PlI w lo qt bt L f fq m n nf C P):∀ x,gU (fun j=>j=fq∨j=m) C x→x < w.heap.size:=fun x hx=>by
 have h1:=h.fg.mp.lt
 have h2:=h.fg.ord
 rcases hx with (e|e)|e
 ·omega
 ·omega
 ·exact (h.fg.q.far x e).2
theorem PlI.ltb (h:PlI w lo qt bt L f fq m n nf C P):bt < w.heap.size:=h.tb.ltb
theorem PlI.turn (h:PlI w lo qt bt L f fq m n nf C P) (hc:Chg (fun j=>j=bt) w w') (ht:Tb w' lo qt bt n' L (gU (fun j=>j=fq∨j=m) C)):PlI w' lo qt bt L f fq m n' nf C P:=by
 have h1:=h.nbt
 refine ⟨ht,h.fg.chg hc h.fb (by show ¬ fq=bt;omega) (by show ¬ m=bt;omega) (fun k hk=>by have:=h1.2.2 k hk;show ¬ k=bt;omega),h.nd,h.wf,h.fb⟩
theorem PlI.keep (h:PlI w lo qt bt L f fq m n nf C P) (hb:Below w.heap.size w w'):PlI w' lo qt bt L f fq m n nf C P:=⟨h.tb.keep hb,h.fg.keep hb,h.nd,h.wf,h.fb⟩
theorem PlI.len (h:PlI w lo qt bt L f fq m n nf C P):True:=trivial
theorem PlI.put {key:Int} {s:Sn} (h:PlI w lo qt bt L f fq m n nf C P) (hnew:∀ p ∈ P,p.2.id≠s.id) (hw:wf64 s.id)
  (hf:Fg w' f fq m (nf+1) (fun x=>if x=s.id then some ((lookP P s.id).getD s) else lookP P x) C' (if (lookP P s.id).isSome then entP P else ⟨key,0,s.id⟩ :: entP P)) (hc:Chg (fun j=>j=m∨j=fq∨gP C j) w w') (hC:∀ j,gP C' j→gP C j∨w.heap.size≤j):
  PlI w' lo qt bt L f fq m n (nf+1) C' ((key,s) :: P):=by
 rw [lookP_none hnew] at hf
 refine ⟨h.tb.step (fun j _ hj hjs=>hc.block j hjs (fun e=>hj (e.elim (fun e => .inl (.inr e)) (fun e=>e.elim (fun e => .inl (.inl e)) .inr)))) hc.size (fun x hx=>hx.elim (fun e => .inl (.inl e)) (fun e=>(hC x e).elim (fun e => .inl (.inr e)) .inr)),?_,?_,fun p hp=>?_,h.fb⟩
 ·rw [lookP_cons];exact hf
 ·rw [List.map_cons,List.nodup_cons]
  refine ⟨fun hm=>?_,h.nd⟩
  obtain ⟨p,hp,e⟩:=List.mem_map.1 hm
  exact hnew p hp e
 ·rcases List.mem_cons.1 hp with rfl|hp
  ·exact hw
  ·exact h.wf p hp
end
def CBX (bt m fq:Nat) (C:Option Addr):Nat→Prop:=fun j=>j=bt∨j=m∨j=fq∨gP C j
structure Stab (St:World→Prop) (SX:Nat→Prop):Prop where
 st:∀ {X w w'},St w→Chg X w w'→(∀ j,SX j→¬ X j)→St w'
def CbPost (lo qt bt:Nat) (L:List Rl) (f fq m n nf:Nat) (C:Option Addr) (P:List (Int × Sn)) (K:Nat) (QF:List (Int × Sn)) (w:World) (e:Ending) (w':World):Prop:=
 e = .returned (.tuple #[])∧∃ n' nf' C' Q,PlI w' lo qt bt L f fq m n' nf' C' (Q ++ P)∧Q.Perm QF∧n'≤n+K∧nf'≤nf+K∧Chg (CBX bt m fq C) w w'∧∀ j,gP C' j→gP C j∨w.heap.size≤j
def CbOk (fk:Nat) (caps:Array Value) (lo qt bt:Nat) (L:List Rl) (f fq m K B:Nat) (gz:Int) (St:World→Prop) (QF:Int→List (Int × Sn)):Prop:=
 ∀ (n nf:Nat) (C:Option Addr) (P:List (Int × Sn)) (z:Int) (w:World),PlI w lo qt bt L f fq m n nf C P→St w→(∀ j,gP C j→B≤j)→B≤w.heap.size→0≤min z gz→min z gz≤16→min z gz≠0→(∀ p ∈ P,∀ q ∈ QF z,p.2.id≠q.2.id)→n+K≤350000→nf≤400000→P.length≤100000→
  Calls Tryz.prog fk (#[.int .i64 z, .int .i64 (min z gz)] ++ caps) w (CbPost lo qt bt L f fq m n nf C P K (QF z) w)
def snR (L:List Rl) (role tier:Int) (g:Gr) (r:Rc):Sn:=
 ⟨r.id,seeL L role tier g r.x r.y r.label,r.x / sd (seeL L role tier g r.x r.y r.label)*sd (seeL L role tier g r.x r.y r.label),r.y / sd (seeL L role tier g r.x r.y r.label)*sd (seeL L role tier g r.x r.y r.label),r.x / sd (seeL L role tier g r.x r.y r.label)*sd (seeL L role tier g r.x r.y r.label)+sd (seeL L role tier g r.x r.y r.label) - 1,r.y / sd (seeL L role tier g r.x r.y r.label)*sd (seeL L role tier g r.x r.y r.label)+sd (seeL L role tier g r.x r.y r.label) - 1⟩
def seeR (L:List Rl) (role tier:Int) (g:Gr) (r:Rc):Bool:=seeB L role tier g r.x r.y r.label
def zmR (L:List Rl) (role tier:Int) (r:Rc):Int:=zoomT L role tier r.label r.x r.y
def kpR (L:List Rl) (role tier:Int) (g:Gr) (z:Int) (r:Rc):Bool:=seeR L role tier g r && (zmR L role tier r == z)
def dstS (px py:Int) (s:Sn):Int:=distI s.a s.b s.c s.d px py
def nearQ (L:List Rl) (role tier:Int) (g:Gr) (px py:Int) (R:List Rc) (z:Int):List (Int × Sn):=(R.filter (kpR L role tier g z)).map (fun r=>(dstS px py (snR L role tier g r),snR L role tier g r))
def NrT (lo qt bt:Nat) (L:List Rl) (Pp Pc:Option Addr) (role tier z:Int) (g:Gr) (wb vb zb n:Nat) (G:Nat→Prop) (w:World):Prop:=
 Tb w lo qt bt n L G∧(Wb w wb Pp Pc qt∧Vb w vb role tier g∧w.cell? ⟨zb,0,none⟩=some (.int .i64 z))∧¬ G wb∧¬ G vb∧¬ G zb
theorem near_env (lo qt bt:Nat) (L:List Rl) (Pp Pc:Option Addr) (role tier z:Int) (g:Gr) (wb vb zb:Nat) (hcnt:cntB L≤1048576) (hn1:L.length≤1000000) (hne:wb≠bt∧vb≠bt∧zb≠bt):
  Env 44 (fun r:Rc=>#[.agg #[.int .i64 r.id, .int .i64 r.x, .int .i64 r.y, .int .i64 r.label], .pointer (some ⟨wb,0,none⟩), .pointer (some ⟨vb,0,none⟩), .pointer (some ⟨zb,0,none⟩)]) bt (kpR L role tier g z) (NrT lo qt bt L Pp Pc role tier z g wb vb zb) where
 step:=fun {n G G' w w'} h hs hz hg=>by
  obtain ⟨ht,⟨hw,hv,hzz⟩,h1,h2,h3⟩:=h
  have hwl:=hw.lt
  have hvl:=hv.lt
  have hzl:zb < w.heap.size:=cell_lt hzz
  have hc:∀ b i,¬ G b→b < w.heap.size→w'.cell? ⟨b,i,none⟩=w.cell? ⟨b,i,none⟩:=fun b i hb hl=>World.cell?_of_block (a:=⟨b,i,none⟩) (hs b hb hl)
  refine ⟨ht.step (fun k _ hk hkl=>hs k hk hkl) hz hg,⟨⟨(hc _ _ h1 hwl).trans hw.c0,(hc _ _ h1 hwl).trans hw.c1,(hc _ _ h1 hwl).trans hw.c2⟩,⟨(hc _ _ h2 hvl).trans hv.c0,(hc _ _ h2 hvl).trans hv.c1,(hc _ _ h2 hvl).trans hv.c2,(hc _ _ h2 hvl).trans hv.c3,(hc _ _ h2 hvl).trans hv.c4,(hc _ _ h2 hvl).trans hv.c5,(hc _ _ h2 hvl).trans hv.c6,(hc _ _ h2 hvl).trans hv.c7,(hc _ _ h2 hvl).trans hv.c8,(hc _ _ h2 hvl).trans hv.c9⟩,(hc _ _ h3 hzl).trans hzz⟩,fun e=>(hg _ e).elim h1 (fun e=>by omega),fun e=>(hg _ e).elim h2 (fun e=>by omega),fun e=>(hg _ e).elim h3 (fun e=>by omega)⟩
 keep:=fun n G r w h hgw hn=>by
  obtain ⟨ht,⟨hw,hv,hzz⟩,h1,h2,h3⟩:=h
  refine (pkeep_any G lo qt bt n L Pp Pc role tier r.id r.x r.y r.label z g wb vb zb w ht hgw (by omega) hcnt hn1 hw hv hzz hne).mono ?_
  rintro e w' ⟨rfl,ht',hg'⟩
  have hc:Chg (fun j=>j=bt) w w':=Chg.ofGrown (X:=fun j=>j=bt) hg' (fun k hk=>by injection hk with hk;exact hk.symm)
  exact ⟨rfl,⟨ht',⟨hw.chg hc hne.1,hv.chg hc hne.2.1,(hc.cell (p:=⟨zb,0,none⟩) (cell_lt hzz) hne.2.2).trans hzz⟩,h1,h2,h3⟩,hg'⟩
 lt:=fun h=>h.1.ltb
 not:=fun h x hx=>(h.1.gq x hx).2
end Go.Proofs.YthlijfligikciaaGreat
