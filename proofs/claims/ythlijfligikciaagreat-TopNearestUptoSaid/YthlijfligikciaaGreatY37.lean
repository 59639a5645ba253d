/- A part of one proof: SoC PgC. No condition. -/
import Derived.Test.YthlijfligikciaaGreatY35
import Derived.Test.YthlijfligikciaaGreatY36
import Derived.Test.YthlijfligikciaaGreatY19
namespace Go.Proofs.YthlijfligikciaaGreat
open Go.RowKit Go.Maps
set_option linter.unusedSimpArgs false
set_option linter.unusedVariables false
set_option maxRecDepth 2000
set_option maxHeartbeats 4000000 in
theorem sorted_any (base c:Nat) (A:Option Addr) (L:List Rc) (w:World) (hl:L.length≤1000000) (h:w.ownsRow base 32 4 (.slice A L.length c) L.length (rcF L)):
  Calls Tryz.prog 85 #[.slice A L.length c] w fun e w'=>e = .returned (.slice A L.length c)∧∃ L':List Rc,L'.Perm L∧w'.ownsRow base 32 4 (.slice A L.length c) L.length (rcF L')∧Chg (gP A) w w':=by
 have hlt:=h.lt
 have HL:=Lib.hid (fun (Bs:Nat) (Y:World) (hY:Below w.heap.size w Y) (hBs:Y.cell? ⟨Bs,0,none⟩=some (.slice A L.length c)) (hB:∀ k,gP A k→Bs≠k)=>srt_rc base c Bs A L Y hl (own_keep h hY) hBs hB)
 have hA:∀ k,gP A k→k < w.heap.size:=fun k hk=>(hlt k (by rw [gOf_own];exact hk)).2
 have HA:=Lib.hid hA
 obtain ⟨n,hn⟩:∃ n,L.length=n:=⟨_,rfl⟩
 rw [hn] at HL
 have HN:=Lib.hid hn
 rw [hn]
 clear h hlt hA hn hl
 go_enter Tryz.func85,Tryz.ntmps85
 go_wp2_with fail
 go_at_call 117
 refine (HL.out w.heap.size _ ((Below.refl _ _).alloc (Nat.le_refl _) _) (by go_simp) (fun k hk e=>by have:=HA.out k hk;omega)).mono ?_
 rintro e w1 ⟨rfl,L',hp,hown,hg⟩
 have b1:w1.cell? ⟨w.heap.size,0,none⟩=some (.slice A n c):=(hg.cell_far ⟨w.heap.size,0,none⟩ (by simp) (fun e=>by have:=HA.out w.heap.size e.symm;omega)).trans (by go_simp)
 have hcc:Chg (gP A) w w1:=(Chg.refl.alloc _).trans (Chg.ofGrown (X:=gP A) hg (fun k hk=>hk)) (fun k hk => .inl hk)
 have hs1:=hcc.size
 have HE:=Lib.hid (And.intro hp (And.intro hown hcc))
 clear hp hown hg hcc
 go_wp2_with fail
 go_ret
 exact ⟨rfl,L',HE.out⟩
set_option maxHeartbeats 16000000 in
theorem pwindow_any (s q cc:Nat) (C:Option Addr) (N:List NdP) (t:QT) (R:List Rc) (a b c d:Int) (w:World) (h:PtI w s q C cc N t R) (hR:R.length≤10000) (hr:rightB a b c d=true):
  Calls Tryz.prog 40 #[.pointer (some ⟨q,0,none⟩), .agg #[.int .i64 a, .int .i64 b, .int .i64 c, .int .i64 d]] w fun e w'=>∃ A ca L',e = .returned (.slice A (L':List Rc).length ca)∧L'.Perm (winR a b c d R)∧w'.ownsRow w.heap.size 32 4 (.slice A L'.length ca) L'.length (rcF L')∧Below w.heap.size w w':=by
 have PM:=Lib.hid (fun (Y:World) (hY:Below w.heap.size w Y)=>pmade_any q N.length cc C Y ((hY.cell (p:=⟨q,1,none⟩) h.g.lt).trans h.g.c1) h.pos)
 have pr:=fun (Y:World)=>right_any a b c d Y
 rw [hr] at pr
 have PR:=Lib.hid pr
 have hrl:=h.recs.length_eq
 have hNl:=h.len
 have PW:=Lib.hid (fun (o:Nat) (ho:w.heap.size≤o) (Y:World) (hY:Below w.heap.size w Y) (hout:OutR Y o none 0 [])=>window_any s q cc o C N a b c d (by omega) (fun j hj=>Nat.lt_of_lt_of_le (h.g.far j hj).2 ho) t 0 0 0 0 none [] Y (h.g.keep hY) h.tr (by decide) (by decide) hout (by simp;omega))
 rw [h.at0] at PW
 have HP:=Lib.hid (show (winR a b c d t.rs).Perm (winR a b c d R) from h.recs.filter _)
 have hlw:(winR a b c d t.rs).length≤10000:=Nat.le_trans win_le (by omega)
 obtain ⟨WL,hWL⟩:∃ z,winR a b c d t.rs=z:=⟨_,rfl⟩
 rw [hWL] at PW HP hlw
 clear h pr hr hrl hNl hWL
 go_enter Tryz.func40,Tryz.ntmps40
 go_wp2_with (first
  | (go_at_call 58;refine (PM.out _ q9l).mono ?_;rintro e w' ⟨rfl,hb⟩;obtain ⟨X1,rfl,hl1,hm1⟩:=later _ hb (Nat.le_refl _);clear hb;(try simp only [q9A,q9B,q9D] at hm1 hl1))
  | (go_at_call 32;refine (PR.out _).mono ?_;rintro e w' ⟨rfl,hb⟩;obtain ⟨X2,rfl,hl2,hm2⟩:=later _ hb (Nat.le_refl _);clear hb;(try simp only [q9A,q9B,q9D] at hm2 hl2)))
 go_at_call 83
 have hbw:Below w.heap.size w (X2.w.alloc (.cells #[.slice none 0 0] 53)):=q9l
 have hX2:w.heap.size+1≤X2.w.heap.size:=by go_size
 refine (PW.out X2.w.heap.size (by omega) _ hbw ⟨by go_simp,by go_simp,World.ownsRow_nil _ _ _ _⟩).mono ?_
 rintro e w3 ⟨rfl,A3,c3,ho3,hc3,hg3⟩
 have hb3:Below w.heap.size w w3:=hbw.trans (hc3.below (fun k hk=>hk.elim (fun e=>by omega) (fun e=>by cases e)) hbw.size)
 rw [List.nil_append] at ho3
 have b3:=ho3.c0
 have hown3:=ho3.own
 obtain ⟨wn,hwn⟩:∃ n,WL.length=n:=⟨_,rfl⟩
 have PS:=Lib.hid (sorted_any (X2.w.heap.size+1) c3 A3 WL w3 (by omega) hown3)
 rw [hwn] at PS b3
 have hA3:∀ k,gP A3 k→w.heap.size≤k:=fun k hk=>by have:=hown3.lt k (by rw [gOf_own];exact hk);omega
 have hD:X2.w.heap.size < w3.heap.size:=ho3.lt
 have HZ:=Lib.hid (And.intro hb3 (And.intro hA3 (And.intro hwn hX2)))
 generalize X2.w.heap.size=D at b3 PS hD HZ
 clear ho3 hc3 hg3 hb3 hown3 hwn hA3 hbw
 go_wp2_with fail
 go_at_call 85
 refine PS.out.mono ?_
 rintro e w4 ⟨rfl,L',hp,hown,hc⟩
 have HE:=Lib.hid (show L'.Perm (winR a b c d R)∧w4.ownsRow w.heap.size 32 4 (.slice A3 wn c3) wn (rcF L')∧Below w.heap.size w w4∧L'.length=wn from ⟨hp.trans HP.out,own_base hown (by have:=HZ.out.2.2.2;omega),HZ.out.1.trans (hc.below HZ.out.2.1 HZ.out.1.size),hp.length_eq.trans HZ.out.2.2.1⟩)
 clear hp hown hc
 go_wp2_with fail
 go_ret
 exact ⟨A3,c3,L',by rw [HE.out.2.2.2];rfl,HE.out.1,by rw [HE.out.2.2.2];exact HE.out.2.1,HE.out.2.2.1⟩
set_option maxHeartbeats 16000000 in
theorem cfound_any (q bm z rb:Nat) (t:CT) (R:List Sh) (a b c d:Int) (w:World) (h:CtI w q bm z t R) (hR:R.length≤10000) (hr:rightB a b c d=true) (hrb:Rb w rb a b c d) (hnb:¬ t.Bl rb):
  Calls Tryz.prog 93 #[.pointer (some ⟨q,0,none⟩), .agg #[.int .i64 a, .int .i64 b, .int .i64 c, .int .i64 d],(.func (.func 94) #[] #[.pointer (some ⟨rb,0,none⟩)])] w fun e w'=>∃ A ca L',e = .returned (.slice A (L':List Sh).length ca)∧L'.Perm (mtS a b c d R)∧w'.ownsRow w.heap.size 75 6 (.slice A L'.length ca) L'.length (shF L')∧Below w.heap.size w w':=by
 obtain ⟨rt,hrt⟩:=h.root
 have c0:=h.c0
 have hsl:=h.shs.length_eq
 have hrbl:=hrb.lt
 have PS:=Lib.hid (fun (o:Nat) (ho:w.heap.size≤o) (Y:World) (hY:Below w.heap.size w Y) (hout:OutS Y o none 0 [])=>search_any z rb o a b c d (by omega) t 0 0 0 0 none [] Y (in_chg (X:=fun _=>False) (Chg.of hY) _ _ _ _ h.inn (fun _ _ e=>e)) h.at_ h.sep (fun j hj=>⟨Nat.lt_of_lt_of_le (h.far j (.inr hj)).1 ho,fun e=>hnb (e ▸ hj)⟩) (hrb.keep hY) hout (by simp;omega))
 have HP:=Lib.hid (show (mtS a b c d t.sh).Perm (mtS a b c d R) from h.shs.filter _)
 have hlw:(mtS a b c d t.sh).length≤10000:=Nat.le_trans (mtS_le _ _ _ _ _) (by omega)
 rw [hrt] at c0 PS
 have PM:=Lib.hid (fun (Y:World) (hY:Below w.heap.size w Y)=>cmade_any q rt Y ((hY.cell (p:=⟨q,0,none⟩) h.lt).trans c0))
 have pr:=fun (Y:World)=>right_any a b c d Y
 rw [hr] at pr
 have PR:=Lib.hid pr
 have hql:=h.lt
 obtain ⟨WL,hWL⟩:∃ z,mtS a b c d t.sh=z:=⟨_,rfl⟩
 rw [hWL] at PS HP hlw
 clear h pr hr hsl hWL hrb hnb hrt
 go_enter Tryz.func93,Tryz.ntmps93
 go_wp2_with (first
  | (go_at_call 60;refine (PM.out _ q9l).mono ?_;rintro e w' ⟨rfl,hb⟩;obtain ⟨X1,rfl,hl1,hm1⟩:=later _ hb (Nat.le_refl _);clear hb;(try simp only [q9A,q9B,q9D] at hm1 hl1))
  | (go_at_call 32;refine (PR.out _).mono ?_;rintro e w' ⟨rfl,hb⟩;obtain ⟨X2,rfl,hl2,hm2⟩:=later _ hb (Nat.le_refl _);clear hb;(try simp only [q9A,q9B,q9D] at hm2 hl2)))
 have hX2:w.heap.size+1≤X2.w.heap.size:=by go_size
 (refine wp_region_later_tail 7 (X2.w.heap.size+1) (by kernel_rfl) (by kernel_rfl) (by go_size) ?_;simp only [List.take_succ_cons,List.take_zero,List.drop_succ_cons,List.drop_zero];(repeat (go_big_quiet_step (fail)));refine wpQuiet_nil ?_;intro Xq hlXq hmXq)
 have hbw:Below w.heap.size w Xq.w:=q9l
 have o0:Xq.w.cell? ⟨X2.w.heap.size,0,none⟩=some (.slice none 0 0):=by go_simp
 have f0:Xq.w.frozen? ⟨X2.w.heap.size,0,none⟩=false:=by go_simp
 have HB:=Lib.hid (And.intro hbw (And.intro o0 f0))
 clear hbw o0 f0
 go_wp2_with fail
 go_at_call 126
 refine (PS.out X2.w.heap.size (by omega) _ HB.out.1 ⟨HB.out.2.1,HB.out.2.2,World.ownsRow_nil _ _ _ _⟩).mono ?_
 rintro e w3 ⟨rfl,T,hT,A3,c3,ho3,hc3,hg3⟩
 have hb3:Below w.heap.size w w3:=HB.out.1.trans (hc3.below (fun k hk=>hk.elim (fun e=>by omega) (fun e=>by cases e)) HB.out.1.size)
 rw [List.nil_append] at ho3
 have b3:=ho3.c0
 have hown3:=ho3.own
 have hTl:=hT.length_eq
 have PSo:=Lib.hid (srt_sh (X2.w.heap.size+1) c3 X2.w.heap.size A3 T w3 (by omega) hown3 b3 (fun k hk e=>by have:=hown3.lt k (by rw [gOf_own];exact hk);omega))
 obtain ⟨wn,hwn⟩:∃ n,T.length=n:=⟨_,rfl⟩
 rw [hwn] at PSo b3
 have hA3:∀ k,gP A3 k→X2.w.heap.size < k:=fun k hk=>by have:=hown3.lt k (by rw [gOf_own];exact hk);omega
 have hD:X2.w.heap.size < w3.heap.size:=ho3.lt
 have HZ:=Lib.hid (And.intro hb3 (And.intro hA3 (And.intro hwn (And.intro hX2 hT))))
 generalize X2.w.heap.size=D at b3 PSo hD HZ
 clear ho3 hc3 hg3 hb3 hown3 hwn hA3 hTl hT
 go_wp2_with fail
 go_at_call 117
 refine PSo.out.mono ?_
 rintro e w4 ⟨rfl,L',hp,hown,hg⟩
 have b4:w4.cell? ⟨D,0,none⟩=some (.slice A3 wn c3):=(hg.cell_far ⟨D,0,none⟩ hD (fun e=>by have:=HZ.out.2.1 D e.symm;omega)).trans b3
 have hc:Chg (gP A3) w3 w4:=Chg.ofGrown (X:=gP A3) hg (fun k hk=>hk)
 have hs4:=hc.size
 have HE:=Lib.hid (show L'.Perm (mtS a b c d R)∧w4.ownsRow w.heap.size 75 6 (.slice A3 wn c3) wn (shF L')∧Below w.heap.size w w4∧L'.length=wn from ⟨(hp.trans HZ.out.2.2.2.2).trans HP.out,own_base hown (by have:=HZ.out.2.2.2.1;omega),HZ.out.1.trans (hc.below (fun k hk=>by have:=HZ.out.2.1 k hk;have:=HZ.out.2.2.2.1;omega) HZ.out.1.size),hp.length_eq.trans HZ.out.2.2.1⟩)
 clear hp hown hg hc
 go_wp2_with fail
 go_ret
 exact ⟨A3,c3,L',by rw [HE.out.2.2.2];rfl,HE.out.1,by rw [HE.out.2.2.2];exact HE.out.2.1,HE.out.2.2.1⟩
set_option maxHeartbeats 16000000 in
theorem cmeets_any (q bm z:Nat) (t:CT) (R:List Sh) (a b c d:Int) (w:World) (h:CtI w q bm z t R) (hR:R.length≤10000) (hr:rightB a b c d=true):
  Calls Tryz.prog 48 #[.pointer (some ⟨q,0,none⟩), .agg #[.int .i64 a, .int .i64 b, .int .i64 c, .int .i64 d]] w fun e w'=>∃ A ca L',e = .returned (.slice A (L':List Sh).length ca)∧L'.Perm (mtS a b c d R)∧w'.ownsRow w.heap.size 75 6 (.slice A L'.length ca) L'.length (shF L')∧Below w.heap.size w w':=by
 have PF:=Lib.hid (fun (Y:World) (hY:Below w.heap.size w Y) (hrb:Rb Y w.heap.size a b c d)=>cfound_any q bm z w.heap.size t R a b c d Y (h.keep hY) hR hr hrb (fun e=>by have:=(h.far _ (.inr e)).1;omega))
 clear h hr
 go_enter Tryz.func48,Tryz.ntmps48
 go_wp2_with fail
 go_at_call 93
 have hbw:Below w.heap.size w (w.alloc (.cells #[.int .i64 a, .int .i64 b, .int .i64 c, .int .i64 d] 24)):=(Below.refl _ _).alloc (Nat.le_refl _) _
 refine (PF.out _ hbw ⟨by go_simp,by go_simp,by go_simp,by go_simp⟩).mono ?_
 rintro e w4 ⟨A3,c3,L',rfl,hp,hown,hb⟩
 have hwl:w.heap.size≤(w.alloc (.cells #[.int .i64 a, .int .i64 b, .int .i64 c, .int .i64 d] 24)).heap.size:=by simp
 have HE:=Lib.hid (show L'.Perm (mtS a b c d R)∧w4.ownsRow w.heap.size 75 6 (.slice A3 L'.length c3) L'.length (shF L')∧Below w.heap.size w w4 from ⟨hp,own_base hown hwl,hbw.trans (hb.mono hwl)⟩)
 obtain ⟨wn,hwn⟩:∃ n,L'.length=n:=⟨_,rfl⟩
 rw [hwn] at HE ⊢
 have HN:=Lib.hid hwn
 clear hp hown hb hbw hwn hwl
 go_wp2_with fail
 go_ret
 exact ⟨A3,c3,L',by rw [HN.out];rfl,by rw [HN.out];exact HE.out⟩
def WSt (q qc qt wb vb rb fb f s cc:Nat) (Ct:Option Addr) (N:List NdP) (t:QT) (R:List Rc) (role tier px py:Int) (g:Gr) (w:World):Prop:=
 Wb w wb (some ⟨q,0,none⟩) (some ⟨qc,0,none⟩) qt∧Vb w vb role tier g∧(Rb w rb px py px py∧w.cell? ⟨fb,0,none⟩=some (.pointer (some ⟨f,0,none⟩)))∧PtI w s q Ct cc N t R
def WSX (q wb vb rb fb s:Nat) (Ct:Option Addr) (N:List NdP):Nat→Prop:=fun j=>j=wb∨j=vb∨j=rb∨j=fb∨PX q Ct N j∨j=s
theorem wst_stab {q qc qt wb vb rb fb f s cc:Nat} {Ct:Option Addr} {N:List NdP} {t:QT} {R:List Rc} {role tier px py:Int} {g:Gr}:Stab (WSt q qc qt wb vb rb fb f s cc Ct N t R role tier px py g) (WSX q wb vb rb fb s Ct N) where
 st:=fun {X w w'} h hc hX=>⟨h.1.chg hc (hX _ (.inl rfl)),h.2.1.chg hc (hX _ (.inr (.inl rfl))),⟨h.2.2.1.1.chg hc (hX _ (.inr (.inr (.inl rfl)))),(hc.cell (p:=⟨fb,0,none⟩) (cell_lt h.2.2.1.2) (hX _ (.inr (.inr (.inr (.inl rfl)))))).trans h.2.2.1.2⟩,h.2.2.2.chg hc (fun k hk=>hX _ (.inr (.inr (.inr (.inr (.inl hk)))))) (hX _ (.inr (.inr (.inr (.inr (.inr rfl))))))⟩
def inW (px py lv:Int) (x y:Int):Bool:=hasB (low px lv) (low py lv) (high px lv) (high py lv) x y
def winQ (L:List Rl) (role tier:Int) (g:Gr) (px py:Int) (R:List Rc) (z:Int):List (Int × Sn):=((R.filter (fun r=>inW px py (min z g.zoom) r.x r.y)).filter (kpR L role tier g z)).map (fun r=>((0:Int),snR L role tier g r))
theorem snap_pt {px py lv:Int} (hf:fitsB px py=true) (h0:0≤lv) (h1:lv≤16):snapB px py px py lv=true∧rightB (low px lv) (low py lv) (high px lv) (high py lv)=true:=by
 have h:=fits_iff.1 hf
 have ex:=(div_iff (n:=px) (x:=px / sd lv) (sd_pos lv)).2 rfl
 have ey:=(div_iff (n:=py) (x:=py / sd lv) (sd_pos lv)).2 rfl
 have hx:=div_grid h0 h1 h.1 h.2.1
 have hy:=div_grid h0 h1 h.2.2.1 h.2.2.2
 have gx:=grid_lt h0 h1 hx.1 hx.2
 have gy:=grid_lt h0 h1 hy.1 hy.2
 have:=sd_pos lv
 refine ⟨?_,?_⟩
 ·unfold snapB
  rw [lvl_iff.2 ⟨h0,h1⟩,show rightB px py px py=true from right_iff.2 ⟨h.1,h.2.1,h.2.2.1,h.2.2.2,h.1,h.2.1,h.2.2.1,h.2.2.2,Int.le_refl _,Int.le_refl _⟩]
  rfl
 ·unfold low high
  exact right_iff.2 ⟨by omega,by omega,by omega,by omega,by omega,by omega,by omega,by omega,by omega,by omega⟩
set_option maxHeartbeats 16000000 in
theorem wincb_any (lo qt bt:Nat) (L:List Rl) (role tier:Int) (g:Gr) (wb vb rb fb f fq m:Nat) (q qc s cc:Nat) (Ct:Option Addr) (N:List NdP) (t:QT) (R:List Rc) (px py:Int) (K B:Nat) (hcnt:cntB L≤1048576) (hn1:L.length≤1000000) (hR:R.length≤60) (hpf:fitsB px py=true) (hK:2*R.length≤K)
  (hSX:∀ j,WSX q wb vb rb fb s Ct N j→j < B∧j≠bt∧j≠m∧j≠fq) (hfb:f≠bt):
  CbOk 38 #[.pointer (some ⟨rb,0,none⟩), .pointer (some ⟨wb,0,none⟩), .pointer (some ⟨vb,0,none⟩), .pointer (some ⟨fb,0,none⟩)] lo qt bt L f fq m K B g.zoom (WSt q qc qt wb vb rb fb f s cc Ct N t R role tier px py g) (winQ L role tier g px py R):=by
 intro n nf C P z w hPl hSt hCB hBw hl0 hl16 hlz hdis hn hnf hPlen
 unfold winQ at hdis ⊢
 obtain ⟨lv,hlv⟩:∃ l,min z g.zoom=l:=⟨_,rfl⟩
 rw [hlv] at hl0 hl16 hlz hdis ⊢
 show Calls Tryz.prog 38 #[.int .i64 z, .int .i64 lv, .pointer (some ⟨rb,0,none⟩), .pointer (some ⟨wb,0,none⟩), .pointer (some ⟨vb,0,none⟩), .pointer (some ⟨fb,0,none⟩)] w _
 have hwb:=hSX wb (.inl rfl)
 have hvb:=hSX vb (.inr (.inl rfl))
 have hrbb:=hSX rb (.inr (.inr (.inl rfl)))
 have hfbb:=hSX fb (.inr (.inr (.inr (.inl rfl))))
 have hgw:=hPl.gw
 have hsp:=snap_pt hpf hl0 hl16
 have psn:=fun (Y:World)=>snap_any px py px py lv Y
 rw [hsp.1] at psn
 simp only [sel,if_true] at psn
 have PW:=Lib.hid (fun (Y:World) (hY:Below w.heap.size w Y)=>pwindow_any s q cc Ct N t R (low px lv) (low py lv) (high px lv) (high py lv) Y (hSt.2.2.2.keep hY) (by omega) hsp.2)
 rw [show winR (low px lv) (low py lv) (high px lv) (high py lv) R=R.filter (fun r=>inW px py lv r.x r.y) from rfl] at PW
 obtain ⟨a0,ha0⟩:∃ c,low px lv=c:=⟨_,rfl⟩
 obtain ⟨b0,hb0⟩:∃ c,low py lv=c:=⟨_,rfl⟩
 obtain ⟨c0,hc0⟩:∃ c,high px lv=c:=⟨_,rfl⟩
 obtain ⟨d0,hd0⟩:∃ c,high py lv=c:=⟨_,rfl⟩
 rw [ha0,hb0,hc0,hd0] at PW psn
 have PSn:=Lib.hid psn
 have PZ:=Lib.hid (fun (r:Rc) (n9:Nat) (C9:Option Addr) (Y:World) (hT:Tb Y lo qt bt n9 L (gU (fun j=>j=fq∨j=m) C9)) (hg9:∀ x,gU (fun j=>j=fq∨j=m) C9 x→x < Y.heap.size) (hn9:n9 < 1000000)=>tzoom_any (gU (fun j=>j=fq∨j=m) C9) lo qt bt n9 L role tier r.label r.x r.y Y hT hg9 hn9 hcnt hn1)
 have PSee:=Lib.hid (fun (r:Rc) (n9:Nat) (C9:Option Addr) (Y:World) (hT:Tb Y lo qt bt n9 L (gU (fun j=>j=fq∨j=m) C9)) (hg9:∀ x,gU (fun j=>j=fq∨j=m) C9 x→x < Y.heap.size) (hn9:n9 < 1000000)=>see_any (gU (fun j=>j=fq∨j=m) C9) lo qt bt n9 L (some ⟨q,0,none⟩) (some ⟨qc,0,none⟩) role tier r.id r.x r.y r.label g Y hT hg9 hn9 hcnt hn1)
 have hPw:∀ r ∈ R,wf64 r.id:=hSt.2.2.2.wf
 have hids:=hSt.2.2.2.ids
 have hw0:=hSt.1.c0
 have hwl:=hSt.1.lt
 have hvl:=hSt.2.1.lt
 have k0:=hSt.2.2.1.1.c0
 have k1:=hSt.2.2.1.1.c1
 have k2:=hSt.2.2.1.1.c2
 have k3:=hSt.2.2.1.1.c3
 have hrbl:rb < w.heap.size:=cell_lt k0
 have hfl:fb < w.heap.size:=cell_lt hSt.2.2.1.2
 obtain ⟨R0,hR0⟩:∃ z,R.filter (fun r=>inW px py lv r.x r.y)=z:=⟨_,rfl⟩
 rw [hR0] at PW hdis ⊢
 have hsub:R0.Sublist R:=by rw [← hR0];exact List.filter_sublist ..
 have hids0:(R0.map (·.id)).Nodup:=List.Nodup.sublist (hsub.map _) hids
 have hPw0:∀ r ∈ R0,wf64 r.id:=fun r hr=>hPw r (hsub.subset hr)
 have hR0l:R0.length≤R.length:=hsub.length_le
 have H:=Lib.hid (show PlI w lo qt bt L f fq m n nf C P∧WSt q qc qt wb vb rb fb f s cc Ct N t R role tier px py g w∧(∀ j,gP C j→B≤j)∧(∀ j,WSX q wb vb rb fb s Ct N j→j < B∧j≠bt∧j≠m∧j≠fq)∧(∀ p ∈ P,∀ q ∈ (R0.filter (kpR L role tier g z)).map (fun r=>((0:Int),snR L role tier g r)),p.2.id≠q.2.id)∧(∀ r ∈ R0,wf64 r.id)∧(R0.map (·.id)).Nodup∧min z g.zoom=lv∧(∀ x,gU (fun j=>j=fq∨j=m) C x→x < w.heap.size) from ⟨hPl,hSt,hCB,hSX,hdis,hPw0,hids0,hlv,hgw⟩)
 have hbl:=hPl.ltb
 have hnbt:=hPl.nbt
 have hfql:=hPl.fg.q.lt
 have hmml:=hPl.fg.mp.lt
 have hffl:=hPl.fg.lt
 generalize hPost:CbPost lo qt bt L f fq m n nf C P K ((R0.filter (kpR L role tier g z)).map (fun r=>((0:Int),snR L role tier g r))) w=Post
 clear hPl hSt hCB hSX hdis hPw hids hlv hgw hpf hsp psn ha0 hb0 hc0 hd0 hR0 hsub hids0 hPw0
 go_enter Tryz.func38,Tryz.ntmps38
 go_wp2_with (first
  | (go_at_call 39;refine (PSn.out _).mono ?_;rintro e w' ⟨rfl,hb⟩;obtain ⟨X1,rfl,hl1,hm1⟩:=later _ hb (Nat.le_refl _);clear hb;(try simp only [q9A,q9B,q9D] at hm1 hl1)))
 go_at_call 40
 have hbw:Below w.heap.size w (X1.w.alloc (.cells #[.int .i64 a0, .int .i64 b0, .int .i64 c0, .int .i64 d0] 24)):=q9l
 refine (PW.out _ hbw).mono ?_
 rintro e W ⟨A,ca,out,rfl,hperm,hown,hb2⟩
 have hbW:Below w.heap.size w W:=hbw.trans (hb2.mono hbw.size)
 have hsW:=hbW.size
 have hsW1:w.heap.size+1≤W.heap.size:=by have:=hb2.size;have:=hbw.size;simp at *;omega
 have hPW:PlI W lo qt bt L f fq m n nf C P:=H.out.1.keep hbW
 have hol:out.length≤R.length:=by have h9:=hperm.length_eq;omega
 have hA:=hown.lt
 have hAw:∀ j,gP A j→w.heap.size≤j∧j < W.heap.size:=fun j hj=>by have:=hA j (by rw [gOf_own];exact hj);have:=hbw.size;omega
 obtain ⟨k,hk⟩:∃ k,out.length=k:=⟨_,rfl⟩
 have hSW:WSt q qc qt wb vb rb fb f s cc Ct N t R role tier px py g W:=wst_stab.st (X:=fun _=>False) H.out.2.1 (Chg.of hbW) (fun _ _ e=>e)
 have HW:=Lib.hid (show PlI W lo qt bt L f fq m n nf C P∧W.ownsRow w.heap.size 32 4 (.slice A k ca) k (rcF out)∧out.Perm R0∧True∧Below w.heap.size w W∧out.length=k∧(∀ j,gP A j→w.heap.size≤j∧j < W.heap.size)∧WSt q qc qt wb vb rb fb f s cc Ct N t R role tier px py g W from ⟨hPW,by rw [← hk];exact own_base hown hbw.size,hperm,trivial,hbW,hk,hAw,hSW⟩)
 rw [hk] at hol ⊢
 clear hown hb2 hbW hbw hPW hperm hA hAw hk hSW hw0 k0 k1 k2 k3
 go_wp2_with fail
 go_loopw [25] (fun i wr=>∃ j:Nat,i = .int .i64 j∧j≤k∧W.heap.size≤wr.heap.size∧Hid (∃ C' n1 nf1,PlI wr lo qt bt L f fq m n1 nf1 C' ((((out.take j).filter (kpR L role tier g z)).map (fun r=>((0:Int),snR L role tier g r))).reverse ++ P)∧(n1≤n+2*j∧nf1≤nf+j)∧Chg (CBX bt m fq C) W wr∧(∀ j,gP C' j→gP C j∨W.heap.size≤j))) (fun i _=>k - (intOf i).toNat)
 case atStart=>exact ⟨0,rfl,Nat.zero_le _,Nat.le_refl _,⟨C,n,nf,by simpa using HW.out.1,⟨by omega,by omega⟩,Chg.refl,fun j hj => .inl hj⟩⟩
 case round=>
  obtain ⟨j,rfl,hjk,hsz,hrel⟩:=hrel
  obtain ⟨C1,n1,nf1,hP1,⟨hn1',hnf1⟩,hc1,hC1⟩:=hrel.out
  by_cases hj:j < k
  ·have hrl:j < out.length:=by rw [HW.out.2.2.2.2.2.1];exact hj
   obtain ⟨r,hr⟩:∃ r,out[j]=r:=⟨_,rfl⟩
   have hro:r ∈ out:=by rw [← hr];exact List.getElem_mem hrl
   have hrR:=HW.out.2.2.1.mem_iff.1 hro
   have hCBX:∀ b,b < B→b≠bt→b≠m→b≠fq→¬ CBX bt m fq C b:=fun b h1 h2 h3 h4 e=>by
    rcases e with e|e|e|e
    ·exact h2 e
    ·exact h3 e
    ·exact h4 e
    ·have:=H.out.2.2.1 b e;omega
   have hAX:∀ b,(Value.slice A k ca).ownBlock=some b→¬ CBX bt m fq C b:=fun b hb e=>by
    rw [gOf_own] at hb
    have h1:=HW.out.2.2.2.2.2.2.1 b hb
    rcases e with e|e|e|e
    ·omega
    ·omega
    ·omega
    ·have:=H.out.1.fg.q.far b e;omega
   have hown1:=own_chg HW.out.2.1 hc1 hAX
   obtain ⟨b,cap2,hv,hlo,hblb⟩:=hown1.form (by omega)
   have hpb:A=some ⟨b,0,none⟩:=by injection hv
   have rc0:∀ m v,m < 4→(rcC r)[m]? = some v→wr.cell? ⟨b,j*4+m,none⟩=some v:=fun m v hm hv9=>by
    have h9:=hown1.cells (g:=b) (by rw [hpb];rfl) (j*4+m) v (by
     have:=flat_get rcC_len out j hrl m hm
     unfold rcF
     rw [this,hr]
     exact hv9)
    rw [Addr.add_lit,Nat.zero_add] at h9
    exact h9
   have r0:=rc0 0 _ (by decide) rfl
   have r1:=rc0 1 _ (by decide) rfl
   have r2:=rc0 2 _ (by decide) rfl
   have r3:=rc0 3 _ (by decide) rfl
   simp only [Nat.add_zero] at r0
   have hS1:=wst_stab.st HW.out.2.2.2.2.2.2.2 hc1 (fun b hb=>by have h9:=H.out.2.2.2.1 b hb;exact hCBX b h9.1 h9.2.1 h9.2.2.1 h9.2.2.2)
   have hS1':=hS1
   obtain ⟨⟨w0,w1,w2⟩,⟨v0,v1,v2,v3,v4,v5,v6,v7,v8,v9⟩,⟨_,f0⟩,_⟩:=hS1'
   have pz:=PZ.out r n1 C1
   unfold TabPost at pz
   have hzm:zmR L role tier r=zoomT L role tier r.label r.x r.y:=rfl
   obtain ⟨zt,hzt⟩:∃ c,zoomT L role tier r.label r.x r.y=c:=⟨_,rfl⟩
   rw [hzt] at pz hzm
   have PZr:=Lib.hid pz
   have hgw1:=hP1.gw
   have hn1k:n1 < 999000:=by omega
   have hlt1:=hP1.ltb
   have htk:out.take (j+1)=out.take j ++ [r]:=by rw [List.take_succ_eq_append_getElem hrl,hr]
   have hwf:=H.out.2.2.2.2.2.1 r hrR
   have hplen:((((out.take j).filter (kpR L role tier g z)).map (fun r=>((0:Int),snR L role tier g r))).reverse ++ P).length≤200000:=by
    have h9:=List.length_filter_le (kpR L role tier g z) (out.take j)
    rw [List.length_append,List.length_reverse,List.length_map]
    rw [List.length_take] at h9
    omega
   have hnew:kpR L role tier g z r=true→∀ p ∈ (((out.take j).filter (kpR L role tier g z)).map (fun r=>((0:Int),snR L role tier g r))).reverse ++ P,p.2.id≠r.id:=fun hkp p hp e=>by
    rcases List.mem_append.1 hp with hp|hp
    ·obtain ⟨u,hu,rfl⟩:=List.mem_map.1 (List.mem_reverse.1 hp)
     have hno:(out.map (·.id)).Nodup:=((HW.out.2.2.1.map (·.id)).nodup_iff).2 H.out.2.2.2.2.2.2.1
     exact nodup_take hno hrl u (List.mem_filter.1 hu).1 (by rw [hr];exact e)
    ·exact H.out.2.2.2.2.1 p hp ((0:Int),snR L role tier g r) (List.mem_map.2 ⟨r,List.mem_filter.2 ⟨hrR,hkp⟩,rfl⟩) e
   have hQf:kpR L role tier g z r=false→(((out.take (j+1)).filter (kpR L role tier g z)).map (fun r=>((0:Int),snR L role tier g r))).reverse ++ P=(((out.take j).filter (kpR L role tier g z)).map (fun r=>((0:Int),snR L role tier g r))).reverse ++ P:=fun hkp=>by
    rw [htk,List.filter_append]
    simp [hkp]
   have hQt:kpR L role tier g z r=true→(((out.take (j+1)).filter (kpR L role tier g z)).map (fun r=>((0:Int),snR L role tier g r))).reverse ++ P=(0,snR L role tier g r) :: ((((out.take j).filter (kpR L role tier g z)).map (fun r=>((0:Int),snR L role tier g r))).reverse ++ P):=fun hkp=>by
    rw [htk,List.filter_append]
    simp [hkp]
   have HR:=Lib.hid (show PlI wr lo qt bt L f fq m n1 nf1 C1 ((((out.take j).filter (kpR L role tier g z)).map (fun r=>((0:Int),snR L role tier g r))).reverse ++ P)∧(n1≤n+2*j∧nf1≤nf+j)∧Chg (CBX bt m fq C) W wr∧(∀ j,gP C1 j→gP C j∨W.heap.size≤j)∧(∀ x,gU (fun j=>j=fq∨j=m) C1 x→x < wr.heap.size)∧(kpR L role tier g z r=true→∀ p ∈ (((out.take j).filter (kpR L role tier g z)).map (fun r=>((0:Int),snR L role tier g r))).reverse ++ P,p.2.id≠r.id)∧((((out.take j).filter (kpR L role tier g z)).map (fun r=>((0:Int),snR L role tier g r))).reverse ++ P).length≤200000∧(kpR L role tier g z r=false→(((out.take (j+1)).filter (kpR L role tier g z)).map (fun r=>((0:Int),snR L role tier g r))).reverse ++ P=(((out.take j).filter (kpR L role tier g z)).map (fun r=>((0:Int),snR L role tier g r))).reverse ++ P)∧(kpR L role tier g z r=true→(((out.take (j+1)).filter (kpR L role tier g z)).map (fun r=>((0:Int),snR L role tier g r))).reverse ++ P=(0,snR L role tier g r) :: ((((out.take j).filter (kpR L role tier g z)).map (fun r=>((0:Int),snR L role tier g r))).reverse ++ P))∧zmR L role tier r=zt from ⟨hP1,⟨hn1',hnf1⟩,hc1,hC1,hgw1,hnew,hplen,hQf,hQt,hzm⟩)
   clear hrel hP1 hc1 hC1 hown1 hv rc0 hr hro pz hzt hgw1 hS1 hAX hCBX hrR hnew hplen hQf hQt hzm htk
   rw [hpb]
   go_wp2_with fail
   go_at_call 28
   have hbA:Below wr.heap.size wr (wr.alloc (.cells #[.int .i64 r.id, .int .i64 r.x, .int .i64 r.y, .int .i64 r.label] 32)):=(Below.refl _ _).alloc (Nat.le_refl _) _
   refine (PZr.out _ (HR.out.1.tb.keep hbA) (fun x hx=>Nat.lt_of_lt_of_le (HR.out.2.2.2.2.1 x hx) hbA.size) (by omega)).mono ?_
   rintro e W2 ⟨rfl,hT2,hg2⟩
   have hg2':Chg (fun j=>j=bt) (wr.alloc (.cells #[.int .i64 r.id, .int .i64 r.x, .int .i64 r.y, .int .i64 r.label] 32)) W2:=Chg.ofGrown (X:=fun j=>j=bt) hg2 (fun k hk=>by injection hk with hk;exact hk.symm)
   have hc2:Chg (fun j=>j=bt) wr W2:=(Chg.of (X:=fun j=>j=bt) hbA).trans hg2' (fun j hj => .inl hj)
   have hs2:=hc2.size
   have hs21:wr.heap.size < W2.heap.size:=by have:=hg2'.size;simp at this;omega
   have hsee0:kpR L role tier g z r=(seeB L role tier g r.x r.y r.label && (zt == z)):=by unfold kpR seeR;rw [HR.out.2.2.2.2.2.2.2.2.2]
   have HT2:=Lib.hid (And.intro (HR.out.1.turn hc2 hT2) hc2)
   by_cases hzz:zt=z
   ·have hzz':=hzz.symm
    subst hzz'
    rw [show (z == z)=true by simp,Bool.and_true] at hsee0
    have hlr:seeL L role tier g r.x r.y r.label=lv:=by unfold seeL;rw [show zoomT L role tier r.label r.x r.y=z from HR.out.2.2.2.2.2.2.2.2.2];exact H.out.2.2.2.2.2.2.2.1
    have psee:=PSee.out r (n1+1) C1
    unfold TabPost seenV at psee
    rw [hlr] at psee
    have hsn:snR L role tier g r=⟨r.id,lv,r.x / sd lv*sd lv,r.y / sd lv*sd lv,r.x / sd lv*sd lv+sd lv - 1,r.y / sd lv*sd lv+sd lv - 1⟩:=by unfold snR;rw [hlr]
    obtain ⟨sB,hsB⟩:∃ c,seeB L role tier g r.x r.y r.label=c:=⟨_,rfl⟩
    rw [hsB] at psee hsee0
    have x0:∀ i,W2.cell? ⟨wr.heap.size,i,none⟩=(wr.alloc (.cells #[.int .i64 r.id, .int .i64 r.x, .int .i64 r.y, .int .i64 r.label] 32)).cell? ⟨wr.heap.size,i,none⟩:=fun i=>hg2'.cell (p:=⟨wr.heap.size,i,none⟩) (by simp) (by show ¬ wr.heap.size=bt;omega)
    have e0:W2.cell? ⟨wr.heap.size,0,none⟩=some (.int .i64 r.id):=(x0 0).trans (by go_simp)
    have e1:W2.cell? ⟨wr.heap.size,1,none⟩=some (.int .i64 r.x):=(x0 1).trans (by go_simp)
    have e2:W2.cell? ⟨wr.heap.size,2,none⟩=some (.int .i64 r.y):=(x0 2).trans (by go_simp)
    have e3:W2.cell? ⟨wr.heap.size,3,none⟩=some (.int .i64 r.label):=(x0 3).trans (by go_simp)
    have hwc:∀ b i,b < B→b≠bt→b < wr.heap.size→W2.cell? ⟨b,i,none⟩=wr.cell? ⟨b,i,none⟩:=fun b i _ h2 h3=>hc2.cell (p:=⟨b,i,none⟩) h3 h2
    have w0:=(hwc wb 0 hwb.1 hwb.2.1 (by omega)).trans w0
    have w1:=(hwc wb 1 hwb.1 hwb.2.1 (by omega)).trans w1
    have w2:=(hwc wb 2 hwb.1 hwb.2.1 (by omega)).trans w2
    have v0:=(hwc vb 0 hvb.1 hvb.2.1 (by omega)).trans v0
    have v1:=(hwc vb 1 hvb.1 hvb.2.1 (by omega)).trans v1
    have v2:=(hwc vb 2 hvb.1 hvb.2.1 (by omega)).trans v2
    have v3:=(hwc vb 3 hvb.1 hvb.2.1 (by omega)).trans v3
    have v4:=(hwc vb 4 hvb.1 hvb.2.1 (by omega)).trans v4
    have v5:=(hwc vb 5 hvb.1 hvb.2.1 (by omega)).trans v5
    have v6:=(hwc vb 6 hvb.1 hvb.2.1 (by omega)).trans v6
    have v7:=(hwc vb 7 hvb.1 hvb.2.1 (by omega)).trans v7
    have v8:=(hwc vb 8 hvb.1 hvb.2.1 (by omega)).trans v8
    have v9:=(hwc vb 9 hvb.1 hvb.2.1 (by omega)).trans v9
    have f0:=(hwc fb 0 hfbb.1 hfbb.2.1 (by omega)).trans f0
    cases sB with
    | false=>
     simp only [sel,Bool.false_eq_true,if_false] at psee
     have PS:=Lib.hid psee
     have HQ:=Lib.hid (HR.out.2.2.2.2.2.2.2.1 hsee0)
     clear hT2 hg2 hg2' hc2 hbA x0 hwc psee hsB hsee0 hsn hlr r0 r1 r2 r3
     go_wp2_with fail
     go_at_call 8
     refine (PS.out _ HT2.out.1.tb HT2.out.1.gw (by omega)).mono ?_
     rintro e W3 ⟨rfl,hT3,hg3⟩
     have hc3:Chg (fun j=>j=bt) W2 W3:=Chg.ofGrown (X:=fun j=>j=bt) hg3 (fun k hk=>by injection hk with hk;exact hk.symm)
     have hs3:=hc3.size
     have hbZ:Below W3.heap.size W3 (W3.alloc (.cells #[.int .i64 0, .int .i64 0, .int .i64 0, .int .i64 0, .int .i64 0, .int .i64 0] 48)):=(Below.refl _ _).alloc (Nat.le_refl _) _
     have HE:=Lib.hid (show ∃ C' n1 nf1,PlI (W3.alloc (.cells #[.int .i64 0, .int .i64 0, .int .i64 0, .int .i64 0, .int .i64 0, .int .i64 0] 48)) lo qt bt L f fq m n1 nf1 C' ((((out.take (j+1)).filter (kpR L role tier g z)).map (fun r=>((0:Int),snR L role tier g r))).reverse ++ P)∧(n1≤n+2*(j+1)∧nf1≤nf+(j+1))∧Chg (CBX bt m fq C) W (W3.alloc (.cells #[.int .i64 0, .int .i64 0, .int .i64 0, .int .i64 0, .int .i64 0, .int .i64 0] 48))∧(∀ j,gP C' j→gP C j∨W.heap.size≤j) from ⟨C1,n1+2,nf1,by rw [HQ.out];exact (HT2.out.1.turn hc3 hT3).keep hbZ,⟨by omega,by omega⟩,((HR.out.2.2.1.trans HT2.out.2 (fun j hj => .inl (.inl hj))).trans hc3 (fun j hj => .inl (.inl hj))).trans (Chg.of (X:=fun _=>False) hbZ) (fun _ e=>e.elim),HR.out.2.2.2.1⟩)
     clear hT3 hg3 hc3 hbZ
     go_wp2_with fail
     go_roundw
     case rel=>exact ⟨j+1,by go_num,by omega,by simp;omega,HE.out⟩
     case measure=>simp [intOf];omega
    | true=>
     simp only [sel,if_true] at psee
     obtain ⟨x0',hx0⟩:∃ c,r.x / sd lv*sd lv=c:=⟨_,rfl⟩
     obtain ⟨y0',hy0⟩:∃ c,r.y / sd lv*sd lv=c:=⟨_,rfl⟩
     rw [hx0,hy0] at psee hsn
     obtain ⟨x1',hx1⟩:∃ c,x0'+sd lv - 1=c:=⟨_,rfl⟩
     obtain ⟨y1',hy1⟩:∃ c,y0'+sd lv - 1=c:=⟨_,rfl⟩
     rw [hx1,hy1] at psee hsn
     have PS:=Lib.hid psee
     have HQ:=Lib.hid (HR.out.2.2.2.2.2.2.2.2.1 hsee0)
     have HN:=Lib.hid (And.intro (HR.out.2.2.2.2.2.1 hsee0) hsn)
     clear hT2 hg2 hg2' hc2 hbA x0 hwc psee hsB hsee0 hsn hlr r0 r1 r2 r3 hx0 hy0 hx1 hy1
     go_wp2_with fail
     go_at_call 8
     refine (PS.out _ HT2.out.1.tb HT2.out.1.gw (by omega)).mono ?_
     rintro e W3 ⟨rfl,hT3,hg3⟩
     have hc3:Chg (fun j=>j=bt) W2 W3:=Chg.ofGrown (X:=fun j=>j=bt) hg3 (fun k hk=>by injection hk with hk;exact hk.symm)
     have hs3:=hc3.size
     have f03:W3.cell? ⟨fb,0,none⟩=some (.pointer (some ⟨f,0,none⟩)):=(hc3.cell (p:=⟨fb,0,none⟩) (by show fb < _;omega) (by show ¬ fb=bt;omega)).trans f0
     have H3:=Lib.hid (And.intro (HT2.out.1.turn hc3 hT3) hc3)
     clear hT3 hg3 hc3 f0
     go_wp2_with fail
     go_at_call 41
     have hbZ:Below W3.heap.size W3 (W3.alloc (.cells #[.int .i64 r.id, .int .i64 lv, .int .i64 x0', .int .i64 y0', .int .i64 x1', .int .i64 y1'] 48)):=(Below.refl _ _).alloc (Nat.le_refl _) _
     have hPq:=H3.out.1.keep hbZ
     refine (fput_any f fq m nf1 (lookP ((((out.take j).filter (kpR L role tier g z)).map (fun r=>((0:Int),snR L role tier g r))).reverse ++ P)) C1 (entP ((((out.take j).filter (kpR L role tier g z)).map (fun r=>((0:Int),snR L role tier g r))).reverse ++ P)) 0 ⟨r.id,lv,x0',y0',x1',y1'⟩ _ hPq.fg hwf (by omega) (by rw [entP_len];have:=HR.out.2.2.2.2.2.2.1;omega)).mono ?_
     rintro e W5 ⟨rfl,C5,hF5,hc5,hC5⟩
     have hs5:=hc5.size
     have hsz5:W3.heap.size+1≤W5.heap.size:=by simp at hs5;omega
     have HE:=Lib.hid (show ∃ C' n1 nf1,PlI W5 lo qt bt L f fq m n1 nf1 C' ((((out.take (j+1)).filter (kpR L role tier g z)).map (fun r=>((0:Int),snR L role tier g r))).reverse ++ P)∧(n1≤n+2*(j+1)∧nf1≤nf+(j+1))∧Chg (CBX bt m fq C) W W5∧(∀ j,gP C' j→gP C j∨W.heap.size≤j) by
      refine ⟨C5,n1+2,nf1+1,?_,⟨by omega,by omega⟩,?_,fun j hj=>(hC5 j hj).elim (HR.out.2.2.2.1 j) (fun e => .inr (by simp at e;omega))⟩
      ·rw [HQ.out,HN.out.2]
       exact hPq.put HN.out.1 hwf hF5 hc5 hC5
      ·exact (((HR.out.2.2.1.trans HT2.out.2 (fun j hj => .inl (.inl hj))).trans H3.out.2 (fun j hj => .inl (.inl hj))).trans (Chg.of (X:=fun _=>False) hbZ) (fun _ e=>e.elim)).trans hc5 (fun j hj=>by
        rcases hj with e|e|e
        ·exact .inl (.inr (.inl e))
        ·exact .inl (.inr (.inr (.inl e)))
        ·exact (HR.out.2.2.2.1 j e).elim (fun e => .inl (.inr (.inr (.inr e)))) (fun e => .inr (by omega))))
     clear hF5 hc5 hC5 hPq hbZ
     go_wp2_with fail
     go_roundw
     case rel=>exact ⟨j+1,by go_num,by omega,by omega,HE.out⟩
     case measure=>simp [intOf];omega
   ·have hzb:(zt == z)=false:=by simpa using hzz
    have hzn:(zt != z)=true:=by simp [hzz]
    rw [hzb,Bool.and_false] at hsee0
    have HQ:=Lib.hid (HR.out.2.2.2.2.2.2.2.1 hsee0)
    have HE:=Lib.hid (show ∃ C' n1 nf1,PlI W2 lo qt bt L f fq m n1 nf1 C' ((((out.take (j+1)).filter (kpR L role tier g z)).map (fun r=>((0:Int),snR L role tier g r))).reverse ++ P)∧(n1≤n+2*(j+1)∧nf1≤nf+(j+1))∧Chg (CBX bt m fq C) W W2∧(∀ j,gP C' j→gP C j∨W.heap.size≤j) from ⟨C1,n1+1,nf1,by rw [HQ.out];exact HT2.out.1,⟨by omega,by omega⟩,HR.out.2.2.1.trans HT2.out.2 (fun j hj => .inl (.inl hj)),HR.out.2.2.2.1⟩)
    clear hT2 hg2 hg2' hc2 hbA hsee0 r0 r1 r2 r3
    go_wp2_with fail
    go_roundw
    case rel=>exact ⟨j+1,by go_num,by omega,by omega,HE.out⟩
    case measure=>simp [intOf];omega
  ·obtain rfl:j=k:=by omega
   have hdj:decide ((j:Int) < (j:Int))=false:=decide_eq_false (by omega)
   have HE:=Lib.hid (show Post (.returned (.tuple #[])) wr by
    rw [← hPost]
    refine ⟨rfl,_,_,C1,_,hP1,?_,by omega,by omega,(Chg.of (X:=CBX bt m fq C) HW.out.2.2.2.2.1).trans hc1 (fun j hj => .inl hj),fun j hj=>(hC1 j hj).elim .inl (fun e => .inr (by omega))⟩
    rw [show out.take j=out by rw [← HW.out.2.2.2.2.2.1,List.take_length]]
    exact (List.reverse_perm _).trans ((HW.out.2.2.1.filter _).map _))
   clear hrel hP1 hc1 hC1
   go_wp2_with fail
   exact bodyPost_end (v := .tuple #[]) (by first|rfl|kernel_rfl) rfl HE.out
end Go.Proofs.YthlijfligikciaaGreat
