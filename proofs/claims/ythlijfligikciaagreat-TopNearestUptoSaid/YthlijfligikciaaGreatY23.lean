/- A part of one proof: CqE CtN. No condition. -/
import Derived.Test.YthlijfligikciaaGreatY22
namespace Go.Proofs.YthlijfligikciaaGreat
open Go.RowKit Go.Maps
set_option linter.unusedSimpArgs false
set_option linter.unusedVariables false
set_option maxRecDepth 2000
structure CtI (w:World) (q bm z:Nat) (t:CT) (R:List Sh):Prop where
 c0:w.cell? ⟨q,0,none⟩=some (.pointer t.ptr)
 c1:w.cell? ⟨q,1,none⟩=some (.map (some bm))
 inn:t.In w z 0 0 0
 at_:t.At 0 0 0
 sep:t.Sep
 root:∃ b,t.ptr=some ⟨b,0,none⟩
 shs:t.sh.Perm R
 m:M1 w bm z (shS R)
 ids:(R.map (·.id)).Nodup
 oks:∀ s ∈ R,okS s=true
 nq:¬ t.Bl q
 nm:¬ t.Bl bm
 ne:q≠bm
def CX (bm:Nat) (t:CT):Nat→Prop:=fun j=>j=bm∨t.Bl j
section
variable {X:Nat→Prop} {w w':World} {q bm z z':Nat} {t:CT} {R:List Sh}
theorem CtI.lt (h:CtI w q bm z t R):q < w.heap.size:=cell_lt h.c0
theorem CtI.far (h:CtI w q bm z t R):∀ j,CX bm t j→j < w.heap.size∧j≠q:=fun j hj=>by
 rcases hj with rfl|hj
 ·exact ⟨h.m.lt,h.ne.symm⟩
 ·exact ⟨in_lt _ _ _ _ h.inn j hj,fun e=>h.nq (e ▸ hj)⟩
theorem CtI.chg (h:CtI w q bm z t R) (hc:Chg X w w') (h1:¬ X q) (h2:∀ j,CX bm t j→¬ X j):CtI w' q bm z t R:=
 ⟨(hc.cell (p:=⟨q,0,none⟩) h.lt h1).trans h.c0,(hc.cell (p:=⟨q,1,none⟩) h.lt h1).trans h.c1,in_chg hc _ _ _ _ h.inn (fun j hj=>h2 j (.inr hj)),h.at_,h.sep,h.root,h.shs,h.m.chg hc (h2 bm (.inl rfl)),h.ids,h.oks,h.nq,h.nm,h.ne⟩
theorem CtI.keep (h:CtI w q bm z t R) (hb:Below w.heap.size w w'):CtI w' q bm z t R:=h.chg (X:=fun _=>False) (Chg.of hb) (fun e=>e) (fun _ _ e=>e)
theorem CtI.more (h:CtI w q bm z t R) (hz:z≤z'):CtI w q bm z' t R:=⟨h.c0,h.c1,in_more hz _ _ _ _ h.inn,h.at_,h.sep,h.root,h.shs,h.m.more hz,h.ids,h.oks,h.nq,h.nm,h.ne⟩
theorem CtI.wf (h:CtI w q bm z t R):∀ s ∈ R,wf64 s.id:=fun s hs=>in_wf _ _ _ _ h.inn s (h.shs.mem_iff.2 hs)
end
theorem delS_none {L:List Sh} {k:Int} (h:shS L k=none):delS L k=L:=List.filter_eq_self.2 (fun u hu=>by simp [shS_none h u hu])
theorem M1.keepB {w w':World} {b n:Nat} {S:Int→Option Value} (h:M1 w b n S) (hb:Below w.heap.size w w'):M1 w' b n S:=h.same (hb.block _ h.lt)
def putS (R:List Sh) (s:Sh):List Sh:=if okS s=true then s :: delS R s.id else R
theorem zero_sh (w:World):(zeroValue 75).run Tryz.prog w = .ok (.agg #[.int .i64 0, .int .i64 0, .int .i64 0, .int .i64 0, .int .i64 0, .int .i64 0]) w:=by kernel_rfl
theorem cmade_any (q b:Nat) (w:World) (h:w.cell? ⟨q,0,none⟩=some (.pointer (some ⟨b,0,none⟩))):Calls Tryz.prog 60 #[.pointer (some ⟨q,0,none⟩)] w fun e w'=>e = .returned (.bool true)∧Below w.heap.size w w':=by
 go_enter Tryz.func60,Tryz.ntmps60
 go_wp2
 go_ret
 exact ⟨rfl,q9o⟩
set_option maxHeartbeats 16000000 in
theorem ctake_any (q bm z:Nat) (t:CT) (R:List Sh) (id:Int) (w:World) (h:CtI w q bm z t R) (hid:wf64 id) (hR:R.length≤100000):
  Calls Tryz.prog 62 #[.pointer (some ⟨q,0,none⟩), .int .i64 id] w fun e w'=>(∃ n,e = .returned (.int .i64 n))∧∃ t',CtI w' q bm z t' (delS R id)∧Chg (CX bm t) w w'∧∀ j,t'.Bl j→t.Bl j:=by
 obtain ⟨rb,hrb⟩:=h.root
 have c0:=h.c0
 rw [hrb] at c0
 have PM:=Lib.hid (fun (Y:World) (hY:Below w.heap.size w Y)=>cmade_any q rb Y ((hY.cell (p:=⟨q,0,none⟩) h.lt).trans c0))
 have c1:=h.c1
 have H:=Lib.hid h
 have hql:=h.lt
 have hml:=h.m.lt
 have hlk:=fun (W:World) (hW:Below w.heap.size w W)=>(h.m.same (hW.block _ hml)).lookOk (mt:=123) Tryz.underlying123 (zero_sh W) hid
 cases hS:shS R id with
 | none=>
  rw [hS] at hlk
  simp only [Option.getD_none,Option.isSome_none] at hlk
  have HD:=Lib.hid (delS_none hS)
  have HLK:=Lib.hid hlk
  clear h hlk hS hrb
  go_enter Tryz.func62,Tryz.ntmps62
  go_wp2_with (first
   | (go_at_call 60;refine (PM.out _ q9l).mono ?_;rintro e w' ⟨rfl,hb⟩;obtain ⟨X1,rfl,hl1,hm1⟩:=later _ hb (Nat.le_refl _);clear hb;(try simp only [q9A,q9B,q9D] at hm1 hl1);have hl9:=HLK.out X1.w q9l))
  go_ret
  rw [HD.out]
  exact ⟨⟨_,rfl⟩,t,H.out.keep q9l,Chg.of q9l,fun j hj=>hj⟩
 | some v=>
  obtain ⟨s,hs,rfl,rfl⟩:=shS_some hS
  rw [hS] at hlk
  simp only [Option.getD_some,Option.isSome_some,shV] at hlk
  have HLK:=Lib.hid hlk
  have hok:=h.oks s hs
  have ph:=fun (Y:World)=>home_any s.a s.b s.c s.d Y
  rw [show rightB s.a s.b s.c s.d=true from hok] at ph
  simp only [sel,if_true] at ph
  obtain ⟨HH,hHe⟩:∃ H,hlS s=H:=⟨_,rfl⟩
  rw [show homeH s.a s.b s.c s.d=HH from hHe] at ph
  obtain ⟨HX,hHX⟩:∃ x,s.a / sd HH=x:=⟨_,rfl⟩
  obtain ⟨HY,hHY⟩:∃ y,s.b / sd HH=y:=⟨_,rfl⟩
  rw [hHX,hHY] at ph
  have PH:=Lib.hid ph
  have PT:=Lib.hid (fun (Y:World) (hY:Chg (fun j=>j=bm) w Y)=>ntake_any s HH HX HY hHe hHX hHY hid t 0 0 0 z Y (in_chg hY _ _ _ _ h.inn (fun j hj e=>h.nm (by rw [← show j=bm from e];exact hj))) h.at_ h.sep (h.shs.mem_iff.2 hs) (by have:=h.shs.length_eq;omega))
  rw [hrb] at PT
  have HSR:=Lib.hid (And.intro hs hrb)
  have hne:=h.ne
  clear h hlk hS hHe hHX hHY hok ph hs hrb
  have hm9:=H.out.m
  have HM:=Lib.hid hm9
  clear hm9
  go_enter Tryz.func62,Tryz.ntmps62
  go_wp2_with (first
   | (go_at_call 60;refine (PM.out _ q9l).mono ?_;rintro e w' ⟨rfl,hb⟩;obtain ⟨X1,rfl,hl1,hm1⟩:=later _ hb (Nat.le_refl _);clear hb;(try simp only [q9A,q9B,q9D] at hm1 hl1);have hl9:=HLK.out X1.w q9l)
   | (go_at_call 61;refine (PH.out _).mono ?_;rintro e w' ⟨rfl,hb⟩;obtain ⟨X2,rfl,hl2,hm2⟩:=later _ hb (Nat.le_refl _);clear hb;(try simp only [q9A,q9B,q9D] at hm2 hl2))
   | (at_delete;refine wpList_del_sh rfl _ _ 123 75 rfl Tryz.underlying123 rfl rfl hid (M1.keepB HM.out q9l) ?_))
  intro w9 hM9 hg9
  have hb8:Below w.heap.size w (X2.w.alloc (.cells #[.int .i64 HH, .int .i64 HX, .int .i64 HY] 83)):=q9l
  have hc9:Chg (fun j=>j=bm) w w9:=(Chg.of (X:=fun j=>j=bm) hb8).trans (Chg.ofGrown (X:=fun j=>j=bm) hg9 (fun k hk=>by injection hk with hk;exact hk.symm)) (fun j e => .inl e)
  have hX2:w.heap.size≤X2.w.heap.size:=by go_size
  have h8:∀ i,w9.cell? ⟨X2.w.heap.size,i,none⟩=(X2.w.alloc (.cells #[.int .i64 HH, .int .i64 HX, .int .i64 HY] 83)).cell? ⟨X2.w.heap.size,i,none⟩:=fun i=>hg9.cell_far ⟨X2.w.heap.size,i,none⟩ (by simp) (fun e=>by injection e with e;have e':X2.w.heap.size=bm:=e;omega)
  have g0:w9.cell? ⟨X2.w.heap.size,0,none⟩=some (.int .i64 HH):=(h8 0).trans (by go_simp)
  have g1:w9.cell? ⟨X2.w.heap.size,1,none⟩=some (.int .i64 HX):=(h8 1).trans (by go_simp)
  have g2:w9.cell? ⟨X2.w.heap.size,2,none⟩=some (.int .i64 HY):=(h8 2).trans (by go_simp)
  have q0:w9.cell? ⟨q,0,none⟩=some (.pointer (some ⟨rb,0,none⟩)):=(hc9.cell (p:=⟨q,0,none⟩) hql hne).trans c0
  have hD:X2.w.heap.size < w9.heap.size:=by have:=hg9.size;simp at this;omega
  have hs9:=hc9.size
  have H9:=Lib.hid (And.intro hM9 hc9)
  generalize X2.w.heap.size=D at g0 g1 g2 hD
  clear hM9 hg9 hb8 hc9 hX2 h8
  go_wp2_with fail
  (refine wp_region_later_tail 6 (w9.heap.size) (by kernel_rfl) (by kernel_rfl) (by go_size) ?_;simp only [List.take_succ_cons,List.take_zero,List.drop_succ_cons,List.drop_zero];(repeat (go_big_quiet_step (fail)));refine wpQuiet_nil ?_;intro Xr hlXr hmXr)
  have hbr:Below w9.heap.size w9 Xr.w:=q9l
  go_wp2_with fail
  go_at_call 103
  have hcr:Chg (fun j=>j=bm) w Xr.w:=H9.out.2.trans (Chg.of (X:=fun j=>j=bm) hbr) (fun j e => .inl e)
  refine (PT.out _ hcr).mono ?_
  rintro e w5 ⟨rfl,t',hp⟩
  have HE:=Lib.hid (show CtI w5 q bm z t' (delS R s.id)∧Chg (CX bm t) w w5∧∀ j,t'.Bl j→t.Bl j by
   have hI:=H.out
   have hcc:Chg (CX bm t) w w5:=(hcr.mono (X':=CX bm t) (fun j e => .inl (.inl e))).trans hp.chg (fun j e => .inl (.inr e))
   refine ⟨⟨?_,?_,hp.inn,hp.at_,hp.sep,⟨rb,hp.ptr.trans HSR.out.2⟩,?_,?_,List.Nodup.sublist (List.Sublist.map _ (List.filter_sublist ..)) hI.ids,fun u hu=>hI.oks u (delS_mem.1 hu).1,fun e=>hI.nq (hp.bls _ e),fun e=>hI.nm (hp.bls _ e),hI.ne⟩,hcc,hp.bls⟩
   ·rw [hp.ptr];exact (hcc.cell (p:=⟨q,0,none⟩) hI.lt (fun e=>(hI.far q e).2 rfl)).trans hI.c0
   ·exact (hcc.cell (p:=⟨q,1,none⟩) hI.lt (fun e=>(hI.far q e).2 rfl)).trans hI.c1
   ·exact (List.perm_cons _).1 (hp.shs.symm.trans (hI.shs.trans (del_perm hI.ids HSR.out.1)))
   ·rw [shS_del]
    exact (H9.out.1.same (hbr.block _ (by omega))).chg hp.chg hI.nm)
  clear hp hcr hbr
  go_wp2_with fail
  go_ret
  exact ⟨⟨_,rfl⟩,t',HE.out⟩
set_option maxHeartbeats 16000000 in
theorem cput_any (q bm z:Nat) (t:CT) (R:List Sh) (s:Sh) (w:World) (h:CtI w q bm z t R) (hid:wf64 s.id) (hR:R.length≤100000) (hz:z≤100000):
  Calls Tryz.prog 22 #[.pointer (some ⟨q,0,none⟩), .agg #[.int .i64 s.id, .int .i64 s.a, .int .i64 s.b, .int .i64 s.c, .int .i64 s.d, .int .i64 s.label]] w fun e w'=>(∃ n,e = .returned (.int .i64 n))∧∃ t',CtI w' q bm (z+1) t' (putS R s)∧Chg (CX bm t) w w'∧∀ j,t'.Bl j→t.Bl j∨w.heap.size≤j:=by
 obtain ⟨rb,hrb⟩:=h.root
 have c0:=h.c0
 rw [hrb] at c0
 have PM:=Lib.hid (fun (Y:World) (hY:Below w.heap.size w Y)=>cmade_any q rb Y ((hY.cell (p:=⟨q,0,none⟩) h.lt).trans c0))
 have c1:=h.c1
 have H:=Lib.hid h
 have hql:=h.lt
 have hml:=h.m.lt
 have hne:=h.ne
 have ph:=fun (Y:World)=>home_any s.a s.b s.c s.d Y
 have PT:=Lib.hid (fun (Y:World) (hY:Below w.heap.size w Y)=>ctake_any q bm z t R s.id Y (h.keep hY) hid hR)
 clear h
 cases hok:okS s with
 | false=>
  rw [show rightB s.a s.b s.c s.d=false from hok] at ph
  simp only [sel,Bool.false_eq_true,if_false] at ph
  have PH:=Lib.hid ph
  have HD:=Lib.hid (show putS R s=R by unfold putS;rw [hok];rfl)
  clear ph hok
  go_enter Tryz.func22,Tryz.ntmps22
  go_wp2_with (first
   | (go_at_call 60;refine (PM.out _ q9l).mono ?_;rintro e w' ⟨rfl,hb⟩;obtain ⟨X1,rfl,hl1,hm1⟩:=later _ hb (Nat.le_refl _);clear hb;(try simp only [q9A,q9B,q9D] at hm1 hl1))
   | (go_at_call 61;refine (PH.out _).mono ?_;rintro e w' ⟨rfl,hb⟩;obtain ⟨X2,rfl,hl2,hm2⟩:=later _ hb (Nat.le_refl _);clear hb;(try simp only [q9A,q9B,q9D] at hm2 hl2)))
  go_ret
  rw [HD.out]
  exact ⟨⟨_,rfl⟩,t,(H.out.keep q9l).more (Nat.le_succ _),Chg.of q9l,fun j hj => .inl hj⟩
 | true=>
  rw [show rightB s.a s.b s.c s.d=true from hok] at ph
  simp only [sel,if_true] at ph
  obtain ⟨H',hHe⟩:∃ H,hlS s=H:=⟨_,rfl⟩
  rw [show homeH s.a s.b s.c s.d=H' from hHe] at ph
  obtain ⟨HX,hHX⟩:∃ x,s.a / sd H'=x:=⟨_,rfl⟩
  obtain ⟨HY,hHY⟩:∃ y,s.b / sd H'=y:=⟨_,rfl⟩
  rw [hHX,hHY] at ph
  have PH:=Lib.hid ph
  have PN:=Lib.hid (fun (t':CT) (b m:Nat) (L:List Sh) (k:Fin 4→CT) (ht:t' = .node b m L k) (Y:World) (hin:t'.In Y z 0 0 0) (hat:t'.At 0 0 0) (hsep:t'.Sep) (hnew:∀ u ∈ t'.sh,u.id≠s.id) (hlen:t'.sh.length≤1000000)=>nput_any s H' HX HY hHe hHX hHY hok hid 16 b m L k 0 0 0 z Y (by have:=hlS_rng s;omega) (ht ▸ hin) (ht ▸ hat) (ht ▸ hsep) (un_root hok) (ht ▸ hnew) (by omega) (ht ▸ hlen))
  have HP:=Lib.hid (show putS R s=s :: delS R s.id by unfold putS;rw [if_pos hok])
  have HOK:=Lib.hid hok
  clear ph hok hHe hHX hHY
  go_enter Tryz.func22,Tryz.ntmps22
  go_wp2_with (first
   | (go_at_call 60;refine (PM.out _ q9l).mono ?_;rintro e w' ⟨rfl,hb⟩;obtain ⟨X1,rfl,hl1,hm1⟩:=later _ hb (Nat.le_refl _);clear hb;(try simp only [q9A,q9B,q9D] at hm1 hl1))
   | (go_at_call 61;refine (PH.out _).mono ?_;rintro e w' ⟨rfl,hb⟩;obtain ⟨X2,rfl,hl2,hm2⟩:=later _ hb (Nat.le_refl _);clear hb;(try simp only [q9A,q9B,q9D] at hm2 hl2)))
  go_at_call 62
  have hb9:Below w.heap.size w (X2.w.alloc (.cells #[.int .i64 H', .int .i64 HX, .int .i64 HY] 83)):=q9l
  refine (PT.out _ hb9).mono ?_
  rintro e w3 ⟨⟨n3,rfl⟩,t3,hI3,hc3,hB3⟩
  have hX2:w.heap.size+1≤X2.w.heap.size:=by go_size
  have hfar:=H.out.far
  have k3:∀ p:Addr,p.block < X2.w.heap.size+1→w.heap.size≤p.block→w3.cell? p=(X2.w.alloc (.cells #[.int .i64 H', .int .i64 HX, .int .i64 HY] 83)).cell? p:=fun p hp hp2=>hc3.cell (by simp;omega) (fun e=>by have:=(hfar _ e).1;omega)
  have g0:w3.cell? ⟨X2.w.heap.size,0,none⟩=some (.int .i64 H'):=(k3 _ (by simp) (by show w.heap.size≤X2.w.heap.size;omega)).trans (by go_simp)
  have g1:w3.cell? ⟨X2.w.heap.size,1,none⟩=some (.int .i64 HX):=(k3 _ (by simp) (by show w.heap.size≤X2.w.heap.size;omega)).trans (by go_simp)
  have g2:w3.cell? ⟨X2.w.heap.size,2,none⟩=some (.int .i64 HY):=(k3 _ (by simp) (by show w.heap.size≤X2.w.heap.size;omega)).trans (by go_simp)
  have s0:w3.cell? ⟨w.heap.size,0,none⟩=some (.int .i64 s.id):=(k3 _ (by show w.heap.size < _;omega) (Nat.le_refl _)).trans (by go_simp)
  have s1:w3.cell? ⟨w.heap.size,1,none⟩=some (.int .i64 s.a):=(k3 _ (by show w.heap.size < _;omega) (Nat.le_refl _)).trans (by go_simp)
  have s2:w3.cell? ⟨w.heap.size,2,none⟩=some (.int .i64 s.b):=(k3 _ (by show w.heap.size < _;omega) (Nat.le_refl _)).trans (by go_simp)
  have s3:w3.cell? ⟨w.heap.size,3,none⟩=some (.int .i64 s.c):=(k3 _ (by show w.heap.size < _;omega) (Nat.le_refl _)).trans (by go_simp)
  have s4:w3.cell? ⟨w.heap.size,4,none⟩=some (.int .i64 s.d):=(k3 _ (by show w.heap.size < _;omega) (Nat.le_refl _)).trans (by go_simp)
  have s5:w3.cell? ⟨w.heap.size,5,none⟩=some (.int .i64 s.label):=(k3 _ (by show w.heap.size < _;omega) (Nat.le_refl _)).trans (by go_simp)
  have q1:w3.cell? ⟨q,1,none⟩=some (.map (some bm)):=hI3.c1
  have hcw3:Chg (CX bm t) w w3:=(Chg.of (X:=CX bm t) hb9).trans hc3 (fun j e => .inl e)
  have hs3:=hcw3.size
  have hDs:X2.w.heap.size < w3.heap.size:=by have:=hc3.size;simp at this;omega
  have H3:=Lib.hid (And.intro hI3 (And.intro hcw3 hB3))
  generalize X2.w.heap.size=D at g0 g1 g2 hDs hX2
  clear hI3 hc3 hB3 hb9 hcw3 k3 c0 c1 hfar
  go_wp2_with fail
  (refine wp_region_later_tail 7 (w3.heap.size) (by kernel_rfl) (by kernel_rfl) (by go_size) ?_;simp only [List.take_succ_cons,List.take_zero,List.drop_succ_cons,List.drop_zero];(repeat (go_big_quiet_step (fail)));refine wpQuiet_nil ?_;intro Xr hlXr hmXr)
  have hbr:Below w3.heap.size w3 Xr.w:=q9l
  have hm3:=H3.out.1.m
  obtain ⟨w9,hput,hM9,hg9⟩:=(M1.keepB hm3 hbr).put (by omega) (mt:=123) Tryz.underlying123 hid (.agg #[.int .i64 s.id, .int .i64 s.a, .int .i64 s.b, .int .i64 s.c, .int .i64 s.d, .int .i64 s.label])
  have hc9:Chg (fun j=>j=bm) w3 w9:=(Chg.of (X:=fun j=>j=bm) hbr).trans (Chg.ofGrown (X:=fun j=>j=bm) hg9 (fun k hk=>by injection hk with hk;exact hk.symm)) (fun j e => .inl e)
  have hs9:=hc9.size
  have k9:∀ p:Addr,p.block < w3.heap.size→¬ (p.block=bm)→w9.cell? p=w3.cell? p:=fun p hp hn=>hc9.cell hp hn
  have g0:w9.cell? ⟨D,0,none⟩=some (.int .i64 H'):=(k9 ⟨D,0,none⟩ (by show D < _;omega) (by show ¬ D=bm;omega)).trans g0
  have g1:w9.cell? ⟨D,1,none⟩=some (.int .i64 HX):=(k9 ⟨D,1,none⟩ (by show D < _;omega) (by show ¬ D=bm;omega)).trans g1
  have g2:w9.cell? ⟨D,2,none⟩=some (.int .i64 HY):=(k9 ⟨D,2,none⟩ (by show D < _;omega) (by show ¬ D=bm;omega)).trans g2
  have s0:w9.cell? ⟨w.heap.size,0,none⟩=some (.int .i64 s.id):=(k9 ⟨w.heap.size,0,none⟩ (by show w.heap.size < _;omega) (by show ¬ w.heap.size=bm;omega)).trans s0
  have s1:w9.cell? ⟨w.heap.size,1,none⟩=some (.int .i64 s.a):=(k9 ⟨w.heap.size,1,none⟩ (by show w.heap.size < _;omega) (by show ¬ w.heap.size=bm;omega)).trans s1
  have s2:w9.cell? ⟨w.heap.size,2,none⟩=some (.int .i64 s.b):=(k9 ⟨w.heap.size,2,none⟩ (by show w.heap.size < _;omega) (by show ¬ w.heap.size=bm;omega)).trans s2
  have s3:w9.cell? ⟨w.heap.size,3,none⟩=some (.int .i64 s.c):=(k9 ⟨w.heap.size,3,none⟩ (by show w.heap.size < _;omega) (by show ¬ w.heap.size=bm;omega)).trans s3
  have s4:w9.cell? ⟨w.heap.size,4,none⟩=some (.int .i64 s.d):=(k9 ⟨w.heap.size,4,none⟩ (by show w.heap.size < _;omega) (by show ¬ w.heap.size=bm;omega)).trans s4
  have s5:w9.cell? ⟨w.heap.size,5,none⟩=some (.int .i64 s.label):=(k9 ⟨w.heap.size,5,none⟩ (by show w.heap.size < _;omega) (by show ¬ w.heap.size=bm;omega)).trans s5
  obtain ⟨rb3,hr3⟩:=H3.out.1.root
  have q0:w9.cell? ⟨q,0,none⟩=some (.pointer (some ⟨rb3,0,none⟩)):=(k9 ⟨q,0,none⟩ (by show q < _;omega) hne).trans (by rw [H3.out.1.c0,hr3])
  obtain ⟨m3',L3,k3',ht3⟩:=ptr_node hr3
  have H9:=Lib.hid (And.intro hM9 (And.intro hc9 (And.intro hr3 ht3)))
  clear hM9 hg9 hc9 hbr k9 hm3 hr3 ht3 q1
  go_wp2_with fail
  (refine wp_region_later_tail 6 (w9.heap.size) (by kernel_rfl) (by kernel_rfl) (by go_size) ?_;simp only [List.take_succ_cons,List.take_zero,List.drop_succ_cons,List.drop_zero];(repeat (go_big_quiet_step (fail)));refine wpQuiet_nil ?_;intro Xs hlXs hmXs)
  have hbs:Below w9.heap.size w9 Xs.w:=q9l
  go_wp2_with fail
  go_at_call 63
  have hcs:Chg (fun j=>j=bm) w3 Xs.w:=H9.out.2.1.trans (Chg.of (X:=fun j=>j=bm) hbs) (fun j e => .inl e)
  refine (PN.out t3 rb3 m3' L3 k3' H9.out.2.2.2 _ (in_chg hcs _ _ _ _ H3.out.1.inn (fun j hj e=>H3.out.1.nm (by rw [← show j=bm from e];exact hj))) H3.out.1.at_ H3.out.1.sep (fun u hu=>(delS_mem.1 (H3.out.1.shs.mem_iff.1 hu)).2) (by
   have h8:=H3.out.1.shs.length_eq
   have h7:(delS R s.id).length≤R.length:=List.length_filter_le _ _
   omega)).mono ?_
  rintro e w5 ⟨rfl,t',hp⟩
  rw [← H9.out.2.2.2] at hp
  have HE:=Lib.hid (show CtI w5 q bm (z+1) t' (putS R s)∧Chg (CX bm t) w w5∧∀ j,t'.Bl j→t.Bl j∨w.heap.size≤j by
   have hI:=H3.out.1
   have hss:=hcs.size
   have hbl:∀ j,t'.Bl j→t3.Bl j∨w3.heap.size≤j:=fun j hj=>(hp.bls j hj).elim .inl (fun e => .inr (by omega))
   have hnq:¬ t'.Bl q:=fun e=>(hbl q e).elim hI.nq (fun e=>by have:=hI.lt;omega)
   have hnm:¬ t'.Bl bm:=fun e=>(hbl bm e).elim hI.nm (fun e=>by have:=hI.m.lt;omega)
   have hc5:Chg (CX bm t3) w3 w5:=(hcs.mono (X':=CX bm t3) (fun j e => .inl (.inl e))).trans hp.chg (fun j e => .inl (.inr e))
   have hqq:¬ CX bm t3 q:=fun e=>e.elim hI.ne hI.nq
   rw [HP.out]
   refine ⟨⟨?_,?_,hp.inn,hp.at_,hp.sep,⟨rb3,hp.ptr.trans H9.out.2.2.1⟩,hp.shs.trans (List.Perm.cons s hI.shs),?_,?_,?_,hnq,hnm,hI.ne⟩,?_,fun j hj=>(hbl j hj).elim (fun e => .inl (H3.out.2.2 j e)) (fun e => .inr (by omega))⟩
   ·rw [hp.ptr];exact (hc5.cell (p:=⟨q,0,none⟩) hI.lt hqq).trans hI.c0
   ·exact (hc5.cell (p:=⟨q,1,none⟩) hI.lt hqq).trans hI.c1
   ·rw [shS_cons]
    exact (M1.keepB H9.out.1 hbs).chg hp.chg hI.nm
   ·rw [List.map_cons,List.nodup_cons]
    refine ⟨fun hm=>?_,hI.ids⟩
    obtain ⟨u,hu,e⟩:=List.mem_map.1 hm
    exact (delS_mem.1 hu).2 e
   ·intro u hu
    rcases List.mem_cons.1 hu with rfl|hu
    ·exact HOK.out
    ·exact hI.oks u hu
   ·exact H3.out.2.1.trans hc5 (fun j e=>e.elim (fun e => .inl (.inl e)) (fun e => .inl (.inr (H3.out.2.2 j e)))))
  clear hp hcs hbs
  go_wp2_with fail
  go_ret
  exact ⟨⟨_,rfl⟩,t',HE.out⟩
def CnwPost (w:World) (e:Ending) (w':World):Prop:=
 ∃ q bm t,e = .returned (.pointer (some ⟨q,0,none⟩))∧CtI w' q bm 0 t []∧w.heap.size≤q∧(∀ j,CX bm t j→w.heap.size≤j)∧Below w.heap.size w w'
set_option maxHeartbeats 4000000 in
theorem cifNew_all (w:World):Calls Tryz.prog 20 #[] w (CnwPost w):=by
 have hmm:=@run_makeMap Tryz.prog
 have P:=Lib.hid (fun (Y:World)=>freshC_any 0 0 0 Y)
 go_enter Tryz.func20,Tryz.ntmps20
 go_wp2_with fail
 go_at_call 57
 refine (P.out _).mono ?_
 rintro e w1 ⟨b,m,rfl,hin,hbm,⟨hb1,hm1⟩,hb⟩
 have hin1:=hin
 have hbl:=in_lt _ _ _ _ hin b (.inl rfl)
 have hml:=in_lt _ _ _ _ hin m (.inr (.inl rfl))
 have HI:=Lib.hid (And.intro hin (And.intro hbm (And.intro hb1 (And.intro hm1 hb))))
 have hsz:=hb.size
 clear hin hin1 hbm hb1 hm1 hb
 go_wp2_with fail
 go_ret
 obtain ⟨hin,hbm,hb1,hm1,hb⟩:=HI.out
 have hbA:Below w1.heap.size w1 ((w1.alloc (.map #[] 0)).alloc (.cells #[.pointer (some ⟨b,0,none⟩), .map (some w1.heap.size)] 125)):=((Below.refl _ _).alloc (Nat.le_refl _) _).alloc (by simp) _
 have hM:=(m1_made w1).same (w':=(w1.alloc (.map #[] 0)).alloc (.cells #[.pointer (some ⟨b,0,none⟩), .map (some w1.heap.size)] 125)) (((Below.refl (w1.alloc (.map #[] 0)).heap.size _).alloc (Nat.le_refl _) _).block _ (by simp))
 have hq:∀ j,(CT.node b m [] fun _=>CT.nil).Bl j→j=b∨j=m:=fun j hj=>hj.elim .inl (fun e=>e.elim .inr (fun ⟨_,e⟩=>e.elim))
 refine ⟨w1.heap.size+1,w1.heap.size, .node b m [] fun _ => .nil,rfl,⟨by go_simp;rfl,by go_simp,in_chg (Chg.of (X:=fun _=>False) hbA) _ _ _ _ hin (fun _ _ e=>e),⟨⟨by decide,by decide⟩,fun s hs=>by (cases hs),fun j=>trivial⟩,⟨hbm,fun j z h=>h.elim,fun i j _ z h=>h.elim,fun j=>trivial⟩,⟨b,rfl⟩,List.Perm.refl _,hM,by simp,fun s hs=>by (cases hs),fun e=>by have:=hq _ e;omega,fun e=>by have:=hq _ e;omega,by omega⟩,by omega,fun j hj=>?_,hb.trans (hbA.mono hsz)⟩
 rcases hj with e|e
 ·omega
 ·have:=hq j e;omega
end Go.Proofs.YthlijfligikciaaGreat
