/- A part of one proof: CkC CkD. No condition. -/
import Derived.Test.YthlijfligikciaaGreatY35
import Derived.Test.YthlijfligikciaaGreatY40
import Derived.Test.YthlijfligikciaaGreatY43
import Derived.Test.YthlijfligikciaaGreatY37
namespace Go.Proofs.YthlijfligikciaaGreat
open Go.RowKit Go.Maps
set_option linter.unusedSimpArgs false
set_option linter.unusedVariables false
set_option maxRecDepth 2000
def NStC (q qc qt wb vb pb mb fb f bm z0:Nat) (t:CT) (R:List Sh) (role tier px py:Int) (g:Gr) (w:World):Prop:=
 Wb w wb (some ⟨q,0,none⟩) (some ⟨qc,0,none⟩) qt∧Vb w vb role tier g∧Bb w pb mb fb f px py 64∧CtI w qc bm z0 t R
def NSXC (qc wb vb pb mb fb bm:Nat) (t:CT):Nat→Prop:=fun j=>j=wb∨j=vb∨j=pb∨j=mb∨j=fb∨CX bm t j∨j=qc
theorem nstc_stab {q qc qt wb vb pb mb fb f bm z0:Nat} {t:CT} {R:List Sh} {role tier px py:Int} {g:Gr}:Stab (NStC q qc qt wb vb pb mb fb f bm z0 t R role tier px py g) (NSXC qc wb vb pb mb fb bm t) where
 st:=fun {X w w'} h hc hX=>⟨h.1.chg hc (hX _ (.inl rfl)),h.2.1.chg hc (hX _ (.inr (.inl rfl))),h.2.2.1.chg hc (hX _ (.inr (.inr (.inl rfl)))) (hX _ (.inr (.inr (.inr (.inl rfl))))) (hX _ (.inr (.inr (.inr (.inr (.inl rfl)))))),h.2.2.2.chg hc (hX _ (.inr (.inr (.inr (.inr (.inr (.inr rfl))))))) (fun k hk=>hX _ (.inr (.inr (.inr (.inr (.inr (.inl hk)))))))⟩
set_option maxHeartbeats 16000000 in
theorem nearccb_any (lo qt bt:Nat) (L:List Rl) (role tier:Int) (g:Gr) (wb vb pb mb fb f fq m:Nat) (q qc bm z0:Nat) (t:CT) (R:List Sh) (px py:Int) (K B:Nat) (hcnt:cntB L≤1048576) (hn1:L.length≤1000000) (hR:R.length≤60) (hpf:fitsB px py=true) (hK:3*R.length≤K)
  (hSX:∀ j,NSXC qc wb vb pb mb fb bm t j→j < B∧j≠bt∧j≠m∧j≠fq) (hfb:f≠bt):
  CbOk 51 #[.pointer (some ⟨wb,0,none⟩), .pointer (some ⟨vb,0,none⟩), .pointer (some ⟨pb,0,none⟩), .pointer (some ⟨mb,0,none⟩), .pointer (some ⟨fb,0,none⟩)] lo qt bt L f fq m K B g.zoom (NStC q qc qt wb vb pb mb fb f bm z0 t R role tier px py g) (nearcQ L role tier g px py R):=by
 intro n nf C P z w hPl hSt hCB hBw hl0 hl16 hlz hdis hn hnf hPlen
 obtain ⟨lv,hlv⟩:∃ l,min z g.zoom=l:=⟨_,rfl⟩
 rw [hlv] at hl0 hl16 hlz ⊢
 show Calls Tryz.prog 51 #[.int .i64 z, .int .i64 lv, .pointer (some ⟨wb,0,none⟩), .pointer (some ⟨vb,0,none⟩), .pointer (some ⟨pb,0,none⟩), .pointer (some ⟨mb,0,none⟩), .pointer (some ⟨fb,0,none⟩)] w _
 have hwb:=hSX wb (.inl rfl)
 have hvb:=hSX vb (.inr (.inl rfl))
 have hpb:=hSX pb (.inr (.inr (.inl rfl)))
 have hmb:=hSX mb (.inr (.inr (.inr (.inl rfl))))
 have hfbb:=hSX fb (.inr (.inr (.inr (.inr (.inl rfl)))))
 have hnG:∀ b,b < B→b≠m→b≠fq→¬ gU (fun j=>j=fq∨j=m) C b:=fun b h1 h2 h3 e=>by
  rcases e with (e|e)|e
  ·exact h3 e
  ·exact h2 e
  ·have:=hCB b e;omega
 have hgw:=hPl.gw
 have PN:=Lib.hid (fun (Y:World) (hY:Below w.heap.size w Y) (hz:Y.cell? ⟨w.heap.size,0,none⟩=some (.int .i64 z))=>by
  have hS:=nstc_stab.st (X:=fun _=>False) hSt (Chg.of hY) (fun _ _ e=>e)
  exact cnearest_any wb vb w.heap.size bt (kpS L role tier g z) (NrT lo qt bt L (some ⟨q,0,none⟩) (some ⟨qc,0,none⟩) role tier z g wb vb w.heap.size) (cloak_env lo qt bt L _ _ role tier z g wb vb w.heap.size hcnt hn1 ⟨hwb.2.1,hvb.2.1,by have:=hPl.ltb;omega⟩) (gU (fun j=>j=fq∨j=m) C) qc bm z0 n 64 t R px py lv Y hS.2.2.2 ⟨hPl.tb.keep hY,⟨hS.1,hS.2.1,hz⟩,hnG wb hwb.1 hwb.2.2.1 hwb.2.2.2,hnG vb hvb.1 hvb.2.2.1 hvb.2.2.2,fun e=>by have:=hgw _ e;omega⟩ (fun x e=>Nat.lt_of_lt_of_le (hgw x e) hY.size) (by omega) (by omega) (by decide) (by omega) ⟨hl0,hl16⟩ hpf (fun j hj=>(hSX j (.inr (.inr (.inr (.inr (.inr hj)))))).2.1))
 have PSee:=Lib.hid (fun (r:Sh) (n9:Nat) (C9:Option Addr) (Y:World) (hT:Tb Y lo qt bt n9 L (gU (fun j=>j=fq∨j=m) C9)) (hg9:∀ x,gU (fun j=>j=fq∨j=m) C9 x→x < Y.heap.size) (hn9:n9 < 1000000)=>seecloak_any (gU (fun j=>j=fq∨j=m) C9) lo qt bt n9 L (some ⟨q,0,none⟩) (some ⟨qc,0,none⟩) role tier r.id r.a r.b r.c r.d r.label g Y hT hg9 hn9 hcnt hn1)
 have hPw:∀ r ∈ R,wf64 r.id:=hSt.2.2.2.wf
 have hids:=hSt.2.2.2.ids
 have hw0:=hSt.1.c1
 have hwl:=hSt.1.lt
 obtain ⟨p0,p1,m0,f0⟩:=hSt.2.2.1
 have hpl:pb < w.heap.size:=cell_lt p0
 have hml:mb < w.heap.size:=cell_lt m0
 have hfl:fb < w.heap.size:=cell_lt f0
 have H:=Lib.hid (show PlI w lo qt bt L f fq m n nf C P∧NStC q qc qt wb vb pb mb fb f bm z0 t R role tier px py g w∧(∀ j,gP C j→B≤j)∧(∀ j,NSXC qc wb vb pb mb fb bm t j→j < B∧j≠bt∧j≠m∧j≠fq)∧(∀ p ∈ P,∀ q ∈ nearcQ L role tier g px py R z,p.2.id≠q.2.id)∧(∀ r ∈ R,wf64 r.id)∧(R.map (·.id)).Nodup∧min z g.zoom=lv∧(∀ x,gU (fun j=>j=fq∨j=m) C x→x < w.heap.size) from ⟨hPl,hSt,hCB,hSX,hdis,hPw,hids,hlv,hgw⟩)
 have hbl:=hPl.ltb
 have hnbt:=hPl.nbt
 have hfql:=hPl.fg.q.lt
 have hmml:=hPl.fg.mp.lt
 have hffl:=hPl.fg.lt
 generalize hPost:CbPost lo qt bt L f fq m n nf C P K (nearcQ L role tier g px py R z) w=Post
 clear hPl hSt hCB hSX hdis hPw hids hlv hgw hnG hpf
 go_enter Tryz.func51,Tryz.ntmps51
 go_wp2_with fail
 have hbw:Below w.heap.size w (w.alloc (.cells #[.int .i64 z] 3)):=(Below.refl _ _).alloc (Nat.le_refl _) _
 refine (PN.out _ hbw (by go_simp)).mono ?_
 rintro e W ⟨A,ca,out,n9,rfl,hown,hperm,hT,hn9,hc⟩
 have hcW:Chg (fun j=>j=bt) w W:=(Chg.of (X:=fun j=>j=bt) hbw).trans hc (fun j hj => .inl hj)
 have hsW:=hcW.size
 have hsW1:w.heap.size+1≤W.heap.size:=by have:=hc.size;simp at this;omega
 have hPW:PlI W lo qt bt L f fq m n9 nf C P:=H.out.1.turn hcW (hT.1.step (fun _ _ _ _=>rfl) (Nat.le_refl _) (fun x hx => .inl (.inl hx)))
 have hol:out.length≤60:=by have h9:=hperm.length_eq;have h8:=List.length_filter_le (kpS L role tier g z) R;omega
 have holR:out.length≤R.length:=by have h9:=hperm.length_eq;have h8:=List.length_filter_le (kpS L role tier g z) R;omega
 have hA:=hown.lt
 have hAw:∀ j,gP A j→w.heap.size < j∧j < W.heap.size:=fun j hj=>by have:=hA j (by rw [gOf_own];exact hj);simp at this;omega
 obtain ⟨k,hk⟩:∃ k,out.length=k:=⟨_,rfl⟩
 have hSW:NStC q qc qt wb vb pb mb fb f bm z0 t R role tier px py g W:=nstc_stab.st H.out.2.1 hcW (fun j hj e=>(H.out.2.2.2.1 j hj).2.1 e)
 have HW:=Lib.hid (show PlI W lo qt bt L f fq m n9 nf C P∧W.ownsRow w.heap.size 75 6 (.slice A k ca) k (shF out)∧out.Perm (R.filter (kpS L role tier g z))∧n9≤n+2*R.length∧Chg (fun j=>j=bt) w W∧out.length=k∧(∀ j,gP A j→w.heap.size < j∧j < W.heap.size)∧NStC q qc qt wb vb pb mb fb f bm z0 t R role tier px py g W from ⟨hPW,by rw [← hk];exact own_base hown (by simp),hperm,hn9,hcW,hk,hAw,hSW⟩)
 rw [hk] at hol holR ⊢
 clear hown hT hc hcW hbw p0 p1 m0 f0 hPW hperm hA hAw hk hSW hn9 hw0
 go_wp2_with fail
 go_loopw [23] (fun i wr=>∃ j:Nat,i = .int .i64 j∧j≤k∧W.heap.size≤wr.heap.size∧Hid (∃ C',PlI wr lo qt bt L f fq m (n9+j) (nf+j) C' (((out.take j).map (fun r=>(dstS px py (snS L role tier g r),snS L role tier g r))).reverse ++ P)∧Chg (CBX bt m fq C) W wr∧(∀ j,gP C' j→gP C j∨W.heap.size≤j))) (fun i _=>k - (intOf i).toNat)
 case atStart=>exact ⟨0,rfl,Nat.zero_le _,Nat.le_refl _,⟨C,by simpa using HW.out.1,Chg.refl,fun j hj => .inl hj⟩⟩
 case round=>
  obtain ⟨j,rfl,hjk,hsz,hrel⟩:=hrel
  obtain ⟨C1,hP1,hc1,hC1⟩:=hrel.out
  by_cases hj:j < k
  ·have hrl:j < out.length:=by rw [HW.out.2.2.2.2.2.1];exact hj
   obtain ⟨r,hr⟩:∃ r,out[j]=r:=⟨_,rfl⟩
   have hro:r ∈ out:=by rw [← hr];exact List.getElem_mem hrl
   have hrf:=HW.out.2.2.1.mem_iff.1 hro
   obtain ⟨hrR,hkp⟩:=List.mem_filter.1 hrf
   have hCBX:∀ b,b < B→b≠bt→b≠m→b≠fq→¬ CBX bt m fq C b:=fun b h1 h2 h3 h4 e=>by
    rcases e with e|e|e|e
    ·exact h2 e
    ·exact h3 e
    ·exact h4 e
    ·have:=H.out.2.2.1 b e;omega
   have hAX:∀ b,(Value.slice A k ca).ownBlock=some b→¬ CBX bt m fq C b:=fun b hb e=>by
    rw [gOf_own] at hb
    have h1:=HW.out.2.2.2.2.2.2.1 b hb
    rcases e with e|e|e|e
    ·omega
    ·omega
    ·omega
    ·have:=H.out.1.fg.q.far b e;omega
   have hown1:=own_chg HW.out.2.1 hc1 hAX
   obtain ⟨b,cap2,hv,hlo,hblb⟩:=hown1.form (by omega)
   have hpb:A=some ⟨b,0,none⟩:=by injection hv
   have rc0:∀ m v,m < 6→(shC r)[m]? = some v→wr.cell? ⟨b,j*6+m,none⟩=some v:=fun m v hm hv9=>by
    have h9:=hown1.cells (g:=b) (by rw [hpb];rfl) (j*6+m) v (by
     have:=flat_get shC_len out j hrl m hm
     unfold shF
     rw [this,hr]
     exact hv9)
    rw [Addr.add_lit,Nat.zero_add] at h9
    exact h9
   have r0:=rc0 0 _ (by decide) rfl
   have r1:=rc0 1 _ (by decide) rfl
   have r2:=rc0 2 _ (by decide) rfl
   have r3:=rc0 3 _ (by decide) rfl
   have r4:=rc0 4 _ (by decide) rfl
   have r5:=rc0 5 _ (by decide) rfl
   simp only [Nat.add_zero] at r0
   have hS1:=nstc_stab.st HW.out.2.2.2.2.2.2.2 hc1 (fun b hb=>by have h9:=H.out.2.2.2.1 b hb;exact hCBX b h9.1 h9.2.1 h9.2.2.1 h9.2.2.2)
   have hS1':=hS1
   obtain ⟨⟨w0,w1,w2⟩,⟨v0,v1,v2,v3,v4,v5,v6,v7,v8,v9⟩,⟨p0,p1,m0,f0⟩,_⟩:=hS1'
   have hsee:scB L role tier g r.label r.a r.b r.c r.d=true:=by
    unfold kpS seeS at hkp
    simp only [Bool.and_eq_true] at hkp
    exact hkp.1
   have hzr:ofT L role tier r.label r.a r.b r.c r.d=z:=by
    unfold kpS zmS at hkp
    simp only [Bool.and_eq_true,beq_iff_eq] at hkp
    exact hkp.2
   have hlr:scL L role tier g r.label r.a r.b r.c r.d=lv:=by unfold scL;rw [hzr];exact H.out.2.2.2.2.2.2.2.1
   have psee:=PSee.out r (n9+j) C1
   unfold TabPost seenC at psee
   rw [hsee,hlr] at psee
   simp only [sel,if_true] at psee
   have hsn:snS L role tier g r=⟨r.id,lv,sn1 r.a r.b r.c r.d lv,sn2 r.a r.b r.c r.d lv,sn3 r.a r.b r.c r.d lv,sn4 r.a r.b r.c r.d lv⟩:=by unfold snS;rw [hlr]
   obtain ⟨x0,hx0⟩:∃ c,sn1 r.a r.b r.c r.d lv=c:=⟨_,rfl⟩
   obtain ⟨y0,hy0⟩:∃ c,sn2 r.a r.b r.c r.d lv=c:=⟨_,rfl⟩
   obtain ⟨x1,hx1⟩:∃ c,sn3 r.a r.b r.c r.d lv=c:=⟨_,rfl⟩
   obtain ⟨y1,hy1⟩:∃ c,sn4 r.a r.b r.c r.d lv=c:=⟨_,rfl⟩
   rw [hx0,hy0,hx1,hy1] at psee hsn
   have PS:=Lib.hid psee
   have PD:=Lib.hid (fun (Y:World)=>dist_any x0 y0 x1 y1 px py Y)
   obtain ⟨dd,hdd⟩:∃ d,distI x0 y0 x1 y1 px py=d:=⟨_,rfl⟩
   rw [hdd] at PD
   have hnew:∀ p ∈ ((out.take j).map (fun r=>(dstS px py (snS L role tier g r),snS L role tier g r))).reverse ++ P,p.2.id≠r.id:=fun p hp e=>by
    rcases List.mem_append.1 hp with hp|hp
    ·obtain ⟨u,hu,rfl⟩:=List.mem_map.1 (List.mem_reverse.1 hp)
     have hno:(out.map (·.id)).Nodup:=((HW.out.2.2.1.map (·.id)).nodup_iff).2 (List.Nodup.sublist (List.Sublist.map _ (List.filter_sublist ..)) H.out.2.2.2.2.2.2.1)
     exact nodup_take hno hrl u hu (by rw [hr];exact e)
    ·exact H.out.2.2.2.2.1 p hp (dstS px py (snS L role tier g r),snS L role tier g r) (List.mem_map.2 ⟨r,hrf,rfl⟩) e
   have hplen:(((out.take j).map (fun r=>(dstS px py (snS L role tier g r),snS L role tier g r))).reverse ++ P).length≤200000:=by
    rw [List.length_append,List.length_reverse,List.length_map,List.length_take];omega
   have htk:((out.take (j+1)).map (fun r=>(dstS px py (snS L role tier g r),snS L role tier g r))).reverse ++ P=(dd,⟨r.id,lv,x0,y0,x1,y1⟩) :: (((out.take j).map (fun r=>(dstS px py (snS L role tier g r),snS L role tier g r))).reverse ++ P):=by
    rw [List.take_succ_eq_append_getElem hrl,hr,List.map_append,List.reverse_append,List.map_cons,List.map_nil,List.reverse_singleton,List.singleton_append,List.cons_append]
    congr 1
    rw [hsn]
    unfold dstS
    simp only [hdd]
   obtain ⟨P1,hP1e⟩:∃ z,((out.take j).map (fun r=>(dstS px py (snS L role tier g r),snS L role tier g r))).reverse ++ P=z:=⟨_,rfl⟩
   rw [hP1e] at hP1 hnew hplen htk
   have hwf:=H.out.2.2.2.2.2.1 r hrR
   have hgw1:=hP1.gw
   have HR:=Lib.hid (show PlI wr lo qt bt L f fq m (n9+j) (nf+j) C1 P1∧Chg (CBX bt m fq C) W wr∧(∀ j,gP C1 j→gP C j∨W.heap.size≤j)∧(∀ p ∈ P1,p.2.id≠r.id)∧P1.length≤200000∧((out.take (j+1)).map (fun r=>(dstS px py (snS L role tier g r),snS L role tier g r))).reverse ++ P=(dd,⟨r.id,lv,x0,y0,x1,y1⟩) :: P1∧(∀ x,gU (fun j=>j=fq∨j=m) C1 x→x < wr.heap.size)∧NStC q qc qt wb vb pb mb fb f bm z0 t R role tier px py g wr from ⟨hP1,hc1,hC1,hnew,hplen,htk,hgw1,hS1⟩)
   have hn9k:n9+j < 1000000:=by have:=HW.out.2.2.2.1;omega
   have hlt1:=hP1.ltb
   clear hrel hP1 hc1 hC1 hown1 hv rc0 hr hro hrf hkp hsee hzr hlr psee hsn hx0 hy0 hx1 hy1 hdd hnew hplen htk hP1e hgw1 hS1 hAX hCBX hrR
   rw [hpb]
   go_wp2_with fail
   go_at_call 50
   have hbA:Below wr.heap.size wr (wr.alloc (.cells #[.int .i64 r.id, .int .i64 r.a, .int .i64 r.b, .int .i64 r.c, .int .i64 r.d, .int .i64 r.label] 75)):=(Below.refl _ _).alloc (Nat.le_refl _) _
   refine (PS.out _ (HR.out.1.tb.keep hbA) (fun x hx=>Nat.lt_of_lt_of_le (HR.out.2.2.2.2.2.2.1 x hx) hbA.size) hn9k).mono ?_
   rintro e W2 ⟨rfl,hT2,hg2⟩
   have hc2:Chg (fun j=>j=bt) wr W2:=(Chg.of (X:=fun j=>j=bt) hbA).trans (Chg.ofGrown (X:=fun j=>j=bt) hg2 (fun k hk=>by injection hk with hk;exact hk.symm)) (fun j hj => .inl hj)
   have hs2:=hc2.size
   have p02:W2.cell? ⟨pb,0,none⟩=some (.int .i64 px):=(hc2.cell (p:=⟨pb,0,none⟩) (by show pb < _;omega) (by show ¬ pb=bt;omega)).trans p0
   have p12:W2.cell? ⟨pb,1,none⟩=some (.int .i64 py):=(hc2.cell (p:=⟨pb,1,none⟩) (by show pb < _;omega) (by show ¬ pb=bt;omega)).trans p1
   have f02:W2.cell? ⟨fb,0,none⟩=some (.pointer (some ⟨f,0,none⟩)):=(hc2.cell (p:=⟨fb,0,none⟩) (by show fb < _;omega) (by show ¬ fb=bt;omega)).trans f0
   have HT2:=Lib.hid (And.intro (HR.out.1.turn hc2 hT2) hc2)
   clear hT2 hg2 hc2 hbA w0 w1 w2 v0 v1 v2 v3 v4 v5 v6 v7 v8 v9 p0 p1 m0 f0 r0 r1 r2 r3 r4 r5
   go_wp2_with fail
   (refine wp_region_later_tail 6 (W2.heap.size+1) (by kernel_rfl) (by kernel_rfl) (by go_size) ?_;simp only [List.take_succ_cons,List.take_zero,List.drop_succ_cons,List.drop_zero];(repeat (go_big_quiet_step ((first|(go_at_call 46;exact Later.call _ (Nat.le_trans (by go_size) (Later.is _).size) (PD.out _))))));refine wpQuiet_nil ?_;intro Xq hlXq hmXq)
   have hbq:Below W2.heap.size W2 Xq.w:=q9l
   go_wp2_with fail
   go_at_call 41
   have hPq:=HT2.out.1.keep hbq
   refine (fput_any f fq m (nf+j) (lookP P1) C1 (entP P1) dd ⟨r.id,lv,x0,y0,x1,y1⟩ _ hPq.fg hwf (by omega) (by rw [entP_len];have:=HR.out.2.2.2.2.1;omega)).mono ?_
   rintro e W5 ⟨rfl,C5,hF5,hc5,hC5⟩
   have hsq:=hbq.size
   have hs5:=hc5.size
   have HE:=Lib.hid (show ∃ C',PlI W5 lo qt bt L f fq m (n9+(j+1)) (nf+(j+1)) C' (((out.take (j+1)).map (fun r=>(dstS px py (snS L role tier g r),snS L role tier g r))).reverse ++ P)∧Chg (CBX bt m fq C) W W5∧(∀ j,gP C' j→gP C j∨W.heap.size≤j) by
    refine ⟨C5,?_,?_,fun j hj=>(hC5 j hj).elim (HR.out.2.2.1 j) (fun e => .inr (by omega))⟩
    ·rw [HR.out.2.2.2.2.2.1]
     exact hPq.put HR.out.2.2.2.1 hwf hF5 hc5 hC5
    ·exact ((HR.out.2.1.trans HT2.out.2 (fun j hj => .inl (.inl hj))).trans (Chg.of (X:=fun _=>False) hbq) (fun _ e=>e.elim)).trans hc5 (fun j hj=>by
      rcases hj with e|e|e
      ·exact .inl (.inr (.inl e))
      ·exact .inl (.inr (.inr (.inl e)))
      ·exact (HR.out.2.2.1 j e).elim (fun e => .inl (.inr (.inr (.inr e)))) (fun e => .inr (by omega))))
   clear hF5 hc5 hC5 hPq hbq
   go_wp2_with fail
   go_roundw
   case rel=>exact ⟨j+1,by go_num,by omega,by omega,HE.out⟩
   case measure=>simp [intOf];omega
  ·obtain rfl:j=k:=by omega
   have hdj:decide ((j:Int) < (j:Int))=false:=decide_eq_false (by omega)
   have HE:=Lib.hid (show Post (.returned (.tuple #[])) wr by
    rw [← hPost]
    refine ⟨rfl,_,_,C1,_,hP1,?_,by have:=HW.out.2.2.2.1;omega,by omega,(HW.out.2.2.2.2.1.mono (X':=CBX bt m fq C) (fun j hj => .inl (.inl hj))).trans hc1 (fun j hj => .inl hj),fun j hj=>(hC1 j hj).elim .inl (fun e => .inr (by omega))⟩
    rw [show out.take j=out by rw [← HW.out.2.2.2.2.2.1,List.take_length]]
    exact (List.reverse_perm _).trans (HW.out.2.2.1.map _))
   clear hrel hP1 hc1 hC1
   go_wp2_with fail
   exact bodyPost_end (v := .tuple #[]) (by first|rfl|kernel_rfl) rfl HE.out
def WStC (q qc qt wb vb rb fb f bm z0:Nat) (t:CT) (R:List Sh) (role tier px py:Int) (g:Gr) (w:World):Prop:=
 Wb w wb (some ⟨q,0,none⟩) (some ⟨qc,0,none⟩) qt∧Vb w vb role tier g∧(Rb w rb px py px py∧w.cell? ⟨fb,0,none⟩=some (.pointer (some ⟨f,0,none⟩)))∧CtI w qc bm z0 t R
def WSXC (qc wb vb rb fb bm:Nat) (t:CT):Nat→Prop:=fun j=>j=wb∨j=vb∨j=rb∨j=fb∨CX bm t j∨j=qc
theorem wstc_stab {q qc qt wb vb rb fb f bm z0:Nat} {t:CT} {R:List Sh} {role tier px py:Int} {g:Gr}:Stab (WStC q qc qt wb vb rb fb f bm z0 t R role tier px py g) (WSXC qc wb vb rb fb bm t) where
 st:=fun {X w w'} h hc hX=>⟨h.1.chg hc (hX _ (.inl rfl)),h.2.1.chg hc (hX _ (.inr (.inl rfl))),⟨h.2.2.1.1.chg hc (hX _ (.inr (.inr (.inl rfl)))),(hc.cell (p:=⟨fb,0,none⟩) (cell_lt h.2.2.1.2) (hX _ (.inr (.inr (.inr (.inl rfl)))))).trans h.2.2.1.2⟩,h.2.2.2.chg hc (hX _ (.inr (.inr (.inr (.inr (.inr rfl)))))) (fun k hk=>hX _ (.inr (.inr (.inr (.inr (.inl hk))))))⟩
def metW (px py lv:Int) (s:Sh):Bool:=meetsB s.a s.b s.c s.d (low px lv) (low py lv) (high px lv) (high py lv)
noncomputable def clkQ (L:List Rl) (role tier:Int) (g:Gr) (px py:Int) (R:List Sh) (z:Int):List (Int × Sn):=((R.filter (fun r=>metW px py (min z g.zoom) r)).filter (kpS L role tier g z)).map (fun r=>((0:Int),snS L role tier g r))
set_option maxHeartbeats 16000000 in
theorem clkcb_any (lo qt bt:Nat) (L:List Rl) (role tier:Int) (g:Gr) (wb vb rb fb f fq m:Nat) (q qc bm z0:Nat) (t:CT) (R:List Sh) (px py:Int) (K B:Nat) (hcnt:cntB L≤1048576) (hn1:L.length≤1000000) (hR:R.length≤60) (hpf:fitsB px py=true) (hK:2*R.length≤K)
  (hSX:∀ j,WSXC qc wb vb rb fb bm t j→j < B∧j≠bt∧j≠m∧j≠fq) (hfb:f≠bt):
  CbOk 47 #[.pointer (some ⟨rb,0,none⟩), .pointer (some ⟨wb,0,none⟩), .pointer (some ⟨vb,0,none⟩), .pointer (some ⟨fb,0,none⟩)] lo qt bt L f fq m K B g.zoom (WStC q qc qt wb vb rb fb f bm z0 t R role tier px py g) (clkQ L role tier g px py R):=by
 intro n nf C P z w hPl hSt hCB hBw hl0 hl16 hlz hdis hn hnf hPlen
 unfold clkQ at hdis ⊢
 obtain ⟨lv,hlv⟩:∃ l,min z g.zoom=l:=⟨_,rfl⟩
 rw [hlv] at hl0 hl16 hlz hdis ⊢
 show Calls Tryz.prog 47 #[.int .i64 z, .int .i64 lv, .pointer (some ⟨rb,0,none⟩), .pointer (some ⟨wb,0,none⟩), .pointer (some ⟨vb,0,none⟩), .pointer (some ⟨fb,0,none⟩)] w _
 have hwb:=hSX wb (.inl rfl)
 have hvb:=hSX vb (.inr (.inl rfl))
 have hrbb:=hSX rb (.inr (.inr (.inl rfl)))
 have hfbb:=hSX fb (.inr (.inr (.inr (.inl rfl))))
 have hgw:=hPl.gw
 have hsp:=snap_pt hpf hl0 hl16
 have psn:=fun (Y:World)=>snap_any px py px py lv Y
 rw [hsp.1] at psn
 simp only [sel,if_true] at psn
 have PW:=Lib.hid (fun (Y:World) (hY:Below w.heap.size w Y)=>cmeets_any qc bm z0 t R (low px lv) (low py lv) (high px lv) (high py lv) Y (hSt.2.2.2.keep hY) (by omega) hsp.2)
 rw [show mtS (low px lv) (low py lv) (high px lv) (high py lv) R=R.filter (fun r=>metW px py lv r) from rfl] at PW
 obtain ⟨a0,ha0⟩:∃ c,low px lv=c:=⟨_,rfl⟩
 obtain ⟨b0,hb0⟩:∃ c,low py lv=c:=⟨_,rfl⟩
 obtain ⟨c0,hc0⟩:∃ c,high px lv=c:=⟨_,rfl⟩
 obtain ⟨d0,hd0⟩:∃ c,high py lv=c:=⟨_,rfl⟩
 rw [ha0,hb0,hc0,hd0] at PW psn
 have PSn:=Lib.hid psn
 have PZ:=Lib.hid (fun (r:Sh) (n9:Nat) (C9:Option Addr) (Y:World) (hT:Tb Y lo qt bt n9 L (gU (fun j=>j=fq∨j=m) C9)) (hg9:∀ x,gU (fun j=>j=fq∨j=m) C9 x→x < Y.heap.size) (hn9:n9 < 1000000)=>tof_any (gU (fun j=>j=fq∨j=m) C9) lo qt bt n9 L role tier r.label r.a r.b r.c r.d Y hT hg9 hn9 hcnt hn1)
 have PSee:=Lib.hid (fun (r:Sh) (n9:Nat) (C9:Option Addr) (Y:World) (hT:Tb Y lo qt bt n9 L (gU (fun j=>j=fq∨j=m) C9)) (hg9:∀ x,gU (fun j=>j=fq∨j=m) C9 x→x < Y.heap.size) (hn9:n9 < 1000000)=>seecloak_any (gU (fun j=>j=fq∨j=m) C9) lo qt bt n9 L (some ⟨q,0,none⟩) (some ⟨qc,0,none⟩) role tier r.id r.a r.b r.c r.d r.label g Y hT hg9 hn9 hcnt hn1)
 have hPw:∀ r ∈ R,wf64 r.id:=hSt.2.2.2.wf
 have hids:=hSt.2.2.2.ids
 have hw0:=hSt.1.c1
 have hwl:=hSt.1.lt
 have hvl:=hSt.2.1.lt
 have k0:=hSt.2.2.1.1.c0
 have k1:=hSt.2.2.1.1.c1
 have k2:=hSt.2.2.1.1.c2
 have k3:=hSt.2.2.1.1.c3
 have hrbl:rb < w.heap.size:=cell_lt k0
 have hfl:fb < w.heap.size:=cell_lt hSt.2.2.1.2
 obtain ⟨R0,hR0⟩:∃ z,R.filter (fun r=>metW px py lv r)=z:=⟨_,rfl⟩
 rw [hR0] at PW hdis ⊢
 have hsub:R0.Sublist R:=by rw [← hR0];exact List.filter_sublist ..
 have hids0:(R0.map (·.id)).Nodup:=List.Nodup.sublist (hsub.map _) hids
 have hPw0:∀ r ∈ R0,wf64 r.id:=fun r hr=>hPw r (hsub.subset hr)
 have hR0l:R0.length≤R.length:=hsub.length_le
 have H:=Lib.hid (show PlI w lo qt bt L f fq m n nf C P∧WStC q qc qt wb vb rb fb f bm z0 t R role tier px py g w∧(∀ j,gP C j→B≤j)∧(∀ j,WSXC qc wb vb rb fb bm t j→j < B∧j≠bt∧j≠m∧j≠fq)∧(∀ p ∈ P,∀ q ∈ (R0.filter (kpS L role tier g z)).map (fun r=>((0:Int),snS L role tier g r)),p.2.id≠q.2.id)∧(∀ r ∈ R0,wf64 r.id)∧(R0.map (·.id)).Nodup∧min z g.zoom=lv∧(∀ x,gU (fun j=>j=fq∨j=m) C x→x < w.heap.size) from ⟨hPl,hSt,hCB,hSX,hdis,hPw0,hids0,hlv,hgw⟩)
 have hbl:=hPl.ltb
 have hnbt:=hPl.nbt
 have hfql:=hPl.fg.q.lt
 have hmml:=hPl.fg.mp.lt
 have hffl:=hPl.fg.lt
 generalize hPost:CbPost lo qt bt L f fq m n nf C P K ((R0.filter (kpS L role tier g z)).map (fun r=>((0:Int),snS L role tier g r))) w=Post
 clear hPl hSt hCB hSX hdis hPw hids hlv hgw hpf hsp psn ha0 hb0 hc0 hd0 hR0 hsub hids0 hPw0
 go_enter Tryz.func47,Tryz.ntmps47
 go_wp2_with (first
  | (go_at_call 39;refine (PSn.out _).mono ?_;rintro e w' ⟨rfl,hb⟩;obtain ⟨X1,rfl,hl1,hm1⟩:=later _ hb (Nat.le_refl _);clear hb;(try simp only [q9A,q9B,q9D] at hm1 hl1)))
 go_at_call 48
 have hbw:Below w.heap.size w (X1.w.alloc (.cells #[.int .i64 a0, .int .i64 b0, .int .i64 c0, .int .i64 d0] 24)):=q9l
 refine (PW.out _ hbw).mono ?_
 rintro e W ⟨A,ca,out,rfl,hperm,hown,hb2⟩
 have hbW:Below w.heap.size w W:=hbw.trans (hb2.mono hbw.size)
 have hsW:=hbW.size
 have hsW1:w.heap.size+1≤W.heap.size:=by have:=hb2.size;have:=hbw.size;simp at *;omega
 have hPW:PlI W lo qt bt L f fq m n nf C P:=H.out.1.keep hbW
 have hol:out.length≤R.length:=by have h9:=hperm.length_eq;omega
 have hA:=hown.lt
 have hAw:∀ j,gP A j→w.heap.size≤j∧j < W.heap.size:=fun j hj=>by have:=hA j (by rw [gOf_own];exact hj);have:=hbw.size;omega
 obtain ⟨k,hk⟩:∃ k,out.length=k:=⟨_,rfl⟩
 have hSW:WStC q qc qt wb vb rb fb f bm z0 t R role tier px py g W:=wstc_stab.st (X:=fun _=>False) H.out.2.1 (Chg.of hbW) (fun _ _ e=>e)
 have HW:=Lib.hid (show PlI W lo qt bt L f fq m n nf C P∧W.ownsRow w.heap.size 75 6 (.slice A k ca) k (shF out)∧out.Perm R0∧True∧Below w.heap.size w W∧out.length=k∧(∀ j,gP A j→w.heap.size≤j∧j < W.heap.size)∧WStC q qc qt wb vb rb fb f bm z0 t R role tier px py g W from ⟨hPW,by rw [← hk];exact own_base hown hbw.size,hperm,trivial,hbW,hk,hAw,hSW⟩)
 rw [hk] at hol ⊢
 clear hown hb2 hbW hbw hPW hperm hA hAw hk hSW hw0 k0 k1 k2 k3
 go_wp2_with fail
 go_loopw [25] (fun i wr=>∃ j:Nat,i = .int .i64 j∧j≤k∧W.heap.size≤wr.heap.size∧Hid (∃ C' n1 nf1,PlI wr lo qt bt L f fq m n1 nf1 C' ((((out.take j).filter (kpS L role tier g z)).map (fun r=>((0:Int),snS L role tier g r))).reverse ++ P)∧(n1≤n+2*j∧nf1≤nf+j)∧Chg (CBX bt m fq C) W wr∧(∀ j,gP C' j→gP C j∨W.heap.size≤j))) (fun i _=>k - (intOf i).toNat)
 case atStart=>exact ⟨0,rfl,Nat.zero_le _,Nat.le_refl _,⟨C,n,nf,by simpa using HW.out.1,⟨by omega,by omega⟩,Chg.refl,fun j hj => .inl hj⟩⟩
 case round=>
  obtain ⟨j,rfl,hjk,hsz,hrel⟩:=hrel
  obtain ⟨C1,n1,nf1,hP1,⟨hn1',hnf1⟩,hc1,hC1⟩:=hrel.out
  by_cases hj:j < k
  ·have hrl:j < out.length:=by rw [HW.out.2.2.2.2.2.1];exact hj
   obtain ⟨r,hr⟩:∃ r,out[j]=r:=⟨_,rfl⟩
   have hro:r ∈ out:=by rw [← hr];exact List.getElem_mem hrl
   have hrR:=HW.out.2.2.1.mem_iff.1 hro
   have hCBX:∀ b,b < B→b≠bt→b≠m→b≠fq→¬ CBX bt m fq C b:=fun b h1 h2 h3 h4 e=>by
    rcases e with e|e|e|e
    ·exact h2 e
    ·exact h3 e
    ·exact h4 e
    ·have:=H.out.2.2.1 b e;omega
   have hAX:∀ b,(Value.slice A k ca).ownBlock=some b→¬ CBX bt m fq C b:=fun b hb e=>by
    rw [gOf_own] at hb
    have h1:=HW.out.2.2.2.2.2.2.1 b hb
    rcases e with e|e|e|e
    ·omega
    ·omega
    ·omega
    ·have:=H.out.1.fg.q.far b e;omega
   have hown1:=own_chg HW.out.2.1 hc1 hAX
   obtain ⟨b,cap2,hv,hlo,hblb⟩:=hown1.form (by omega)
   have hpb:A=some ⟨b,0,none⟩:=by injection hv
   have rc0:∀ m v,m < 6→(shC r)[m]? = some v→wr.cell? ⟨b,j*6+m,none⟩=some v:=fun m v hm hv9=>by
    have h9:=hown1.cells (g:=b) (by rw [hpb];rfl) (j*6+m) v (by
     have:=flat_get shC_len out j hrl m hm
     unfold shF
     rw [this,hr]
     exact hv9)
    rw [Addr.add_lit,Nat.zero_add] at h9
    exact h9
   have r0:=rc0 0 _ (by decide) rfl
   have r1:=rc0 1 _ (by decide) rfl
   have r2:=rc0 2 _ (by decide) rfl
   have r3:=rc0 3 _ (by decide) rfl
   have r4:=rc0 4 _ (by decide) rfl
   have r5:=rc0 5 _ (by decide) rfl
   simp only [Nat.add_zero] at r0
   have hS1:=wstc_stab.st HW.out.2.2.2.2.2.2.2 hc1 (fun b hb=>by have h9:=H.out.2.2.2.1 b hb;exact hCBX b h9.1 h9.2.1 h9.2.2.1 h9.2.2.2)
   have hS1':=hS1
   obtain ⟨⟨w0,w1,w2⟩,⟨v0,v1,v2,v3,v4,v5,v6,v7,v8,v9⟩,⟨_,f0⟩,_⟩:=hS1'
   have pz:=PZ.out r n1 C1
   unfold TabPost at pz
   have hzm:zmS L role tier r=ofT L role tier r.label r.a r.b r.c r.d:=rfl
   obtain ⟨zt,hzt⟩:∃ c,ofT L role tier r.label r.a r.b r.c r.d=c:=⟨_,rfl⟩
   rw [hzt] at pz hzm
   have PZr:=Lib.hid pz
   have hgw1:=hP1.gw
   have hn1k:n1 < 999000:=by omega
   have hlt1:=hP1.ltb
   have htk:out.take (j+1)=out.take j ++ [r]:=by rw [List.take_succ_eq_append_getElem hrl,hr]
   have hwf:=H.out.2.2.2.2.2.1 r hrR
   have hplen:((((out.take j).filter (kpS L role tier g z)).map (fun r=>((0:Int),snS L role tier g r))).reverse ++ P).length≤200000:=by
    have h9:=List.length_filter_le (kpS L role tier g z) (out.take j)
    rw [List.length_append,List.length_reverse,List.length_map]
    rw [List.length_take] at h9
    omega
   have hnew:kpS L role tier g z r=true→∀ p ∈ (((out.take j).filter (kpS L role tier g z)).map (fun r=>((0:Int),snS L role tier g r))).reverse ++ P,p.2.id≠r.id:=fun hkp p hp e=>by
    rcases List.mem_append.1 hp with hp|hp
    ·obtain ⟨u,hu,rfl⟩:=List.mem_map.1 (List.mem_reverse.1 hp)
     have hno:(out.map (·.id)).Nodup:=((HW.out.2.2.1.map (·.id)).nodup_iff).2 H.out.2.2.2.2.2.2.1
     exact nodup_take hno hrl u (List.mem_filter.1 hu).1 (by rw [hr];exact e)
    ·exact H.out.2.2.2.2.1 p hp ((0:Int),snS L role tier g r) (List.mem_map.2 ⟨r,List.mem_filter.2 ⟨hrR,hkp⟩,rfl⟩) e
   have hQf:kpS L role tier g z r=false→(((out.take (j+1)).filter (kpS L role tier g z)).map (fun r=>((0:Int),snS L role tier g r))).reverse ++ P=(((out.take j).filter (kpS L role tier g z)).map (fun r=>((0:Int),snS L role tier g r))).reverse ++ P:=fun hkp=>by
    rw [htk,List.filter_append]
    simp [hkp]
   have hQt:kpS L role tier g z r=true→(((out.take (j+1)).filter (kpS L role tier g z)).map (fun r=>((0:Int),snS L role tier g r))).reverse ++ P=(0,snS L role tier g r) :: ((((out.take j).filter (kpS L role tier g z)).map (fun r=>((0:Int),snS L role tier g r))).reverse ++ P):=fun hkp=>by
    rw [htk,List.filter_append]
    simp [hkp]
   have HR:=Lib.hid (show PlI wr lo qt bt L f fq m n1 nf1 C1 ((((out.take j).filter (kpS L role tier g z)).map (fun r=>((0:Int),snS L role tier g r))).reverse ++ P)∧(n1≤n+2*j∧nf1≤nf+j)∧Chg (CBX bt m fq C) W wr∧(∀ j,gP C1 j→gP C j∨W.heap.size≤j)∧(∀ x,gU (fun j=>j=fq∨j=m) C1 x→x < wr.heap.size)∧(kpS L role tier g z r=true→∀ p ∈ (((out.take j).filter (kpS L role tier g z)).map (fun r=>((0:Int),snS L role tier g r))).reverse ++ P,p.2.id≠r.id)∧((((out.take j).filter (kpS L role tier g z)).map (fun r=>((0:Int),snS L role tier g r))).reverse ++ P).length≤200000∧(kpS L role tier g z r=false→(((out.take (j+1)).filter (kpS L role tier g z)).map (fun r=>((0:Int),snS L role tier g r))).reverse ++ P=(((out.take j).filter (kpS L role tier g z)).map (fun r=>((0:Int),snS L role tier g r))).reverse ++ P)∧(kpS L role tier g z r=true→(((out.take (j+1)).filter (kpS L role tier g z)).map (fun r=>((0:Int),snS L role tier g r))).reverse ++ P=(0,snS L role tier g r) :: ((((out.take j).filter (kpS L role tier g z)).map (fun r=>((0:Int),snS L role tier g r))).reverse ++ P))∧zmS L role tier r=zt from ⟨hP1,⟨hn1',hnf1⟩,hc1,hC1,hgw1,hnew,hplen,hQf,hQt,hzm⟩)
   clear hrel hP1 hc1 hC1 hown1 hv rc0 hr hro pz hzt hgw1 hS1 hAX hCBX hrR hnew hplen hQf hQt hzm htk
   rw [hpb]
   go_wp2_with fail
   go_at_call 49
   have hbA:Below wr.heap.size wr (wr.alloc (.cells #[.int .i64 r.id, .int .i64 r.a, .int .i64 r.b, .int .i64 r.c, .int .i64 r.d, .int .i64 r.label] 75)):=(Below.refl _ _).alloc (Nat.le_refl _) _
   refine (PZr.out _ (HR.out.1.tb.keep hbA) (fun x hx=>Nat.lt_of_lt_of_le (HR.out.2.2.2.2.1 x hx) hbA.size) (by omega)).mono ?_
   rintro e W2 ⟨rfl,hT2,hg2⟩
   have hg2':Chg (fun j=>j=bt) (wr.alloc (.cells #[.int .i64 r.id, .int .i64 r.a, .int .i64 r.b, .int .i64 r.c, .int .i64 r.d, .int .i64 r.label] 75)) W2:=Chg.ofGrown (X:=fun j=>j=bt) hg2 (fun k hk=>by injection hk with hk;exact hk.symm)
   have hc2:Chg (fun j=>j=bt) wr W2:=(Chg.of (X:=fun j=>j=bt) hbA).trans hg2' (fun j hj => .inl hj)
   have hs2:=hc2.size
   have hs21:wr.heap.size < W2.heap.size:=by have:=hg2'.size;simp at this;omega
   have hsee0:kpS L role tier g z r=(scB L role tier g r.label r.a r.b r.c r.d && (zt == z)):=by unfold kpS seeS;rw [HR.out.2.2.2.2.2.2.2.2.2]
   have HT2:=Lib.hid (And.intro (HR.out.1.turn hc2 hT2) hc2)
   by_cases hzz:zt=z
   ·have hzz':=hzz.symm
    subst hzz'
    rw [show (z == z)=true by simp,Bool.and_true] at hsee0
    have hlr:scL L role tier g r.label r.a r.b r.c r.d=lv:=by unfold scL;rw [show ofT L role tier r.label r.a r.b r.c r.d=z from HR.out.2.2.2.2.2.2.2.2.2];exact H.out.2.2.2.2.2.2.2.1
    have psee:=PSee.out r (n1+1) C1
    unfold TabPost seenC at psee
    rw [hlr] at psee
    have hsn:snS L role tier g r=⟨r.id,lv,sn1 r.a r.b r.c r.d lv,sn2 r.a r.b r.c r.d lv,sn3 r.a r.b r.c r.d lv,sn4 r.a r.b r.c r.d lv⟩:=by unfold snS;rw [hlr]
    obtain ⟨sB,hsB⟩:∃ c,scB L role tier g r.label r.a r.b r.c r.d=c:=⟨_,rfl⟩
    rw [hsB] at psee hsee0
    have x0:∀ i,W2.cell? ⟨wr.heap.size,i,none⟩=(wr.alloc (.cells #[.int .i64 r.id, .int .i64 r.a, .int .i64 r.b, .int .i64 r.c, .int .i64 r.d, .int .i64 r.label] 75)).cell? ⟨wr.heap.size,i,none⟩:=fun i=>hg2'.cell (p:=⟨wr.heap.size,i,none⟩) (by simp) (by show ¬ wr.heap.size=bt;omega)
    have e0:W2.cell? ⟨wr.heap.size,0,none⟩=some (.int .i64 r.id):=(x0 0).trans (by go_simp)
    have e1:W2.cell? ⟨wr.heap.size,1,none⟩=some (.int .i64 r.a):=(x0 1).trans (by go_simp)
    have e2:W2.cell? ⟨wr.heap.size,2,none⟩=some (.int .i64 r.b):=(x0 2).trans (by go_simp)
    have e3:W2.cell? ⟨wr.heap.size,3,none⟩=some (.int .i64 r.c):=(x0 3).trans (by go_simp)
    have e4:W2.cell? ⟨wr.heap.size,4,none⟩=some (.int .i64 r.d):=(x0 4).trans (by go_simp)
    have e5:W2.cell? ⟨wr.heap.size,5,none⟩=some (.int .i64 r.label):=(x0 5).trans (by go_simp)
    have hwc:∀ b i,b < B→b≠bt→b < wr.heap.size→W2.cell? ⟨b,i,none⟩=wr.cell? ⟨b,i,none⟩:=fun b i _ h2 h3=>hc2.cell (p:=⟨b,i,none⟩) h3 h2
    have w0:=(hwc wb 0 hwb.1 hwb.2.1 (by omega)).trans w0
    have w1:=(hwc wb 1 hwb.1 hwb.2.1 (by omega)).trans w1
    have w2:=(hwc wb 2 hwb.1 hwb.2.1 (by omega)).trans w2
    have v0:=(hwc vb 0 hvb.1 hvb.2.1 (by omega)).trans v0
    have v1:=(hwc vb 1 hvb.1 hvb.2.1 (by omega)).trans v1
    have v2:=(hwc vb 2 hvb.1 hvb.2.1 (by omega)).trans v2
    have v3:=(hwc vb 3 hvb.1 hvb.2.1 (by omega)).trans v3
    have v4:=(hwc vb 4 hvb.1 hvb.2.1 (by omega)).trans v4
    have v5:=(hwc vb 5 hvb.1 hvb.2.1 (by omega)).trans v5
    have v6:=(hwc vb 6 hvb.1 hvb.2.1 (by omega)).trans v6
    have v7:=(hwc vb 7 hvb.1 hvb.2.1 (by omega)).trans v7
    have v8:=(hwc vb 8 hvb.1 hvb.2.1 (by omega)).trans v8
    have v9:=(hwc vb 9 hvb.1 hvb.2.1 (by omega)).trans v9
    have f0:=(hwc fb 0 hfbb.1 hfbb.2.1 (by omega)).trans f0
    cases sB with
    | false=>
     simp only [sel,Bool.false_eq_true,if_false] at psee
     have PS:=Lib.hid psee
     have HQ:=Lib.hid (HR.out.2.2.2.2.2.2.2.1 hsee0)
     clear hT2 hg2 hg2' hc2 hbA x0 hwc psee hsB hsee0 hsn hlr r0 r1 r2 r3 r4 r5
     go_wp2_with fail
     go_at_call 50
     refine (PS.out _ HT2.out.1.tb HT2.out.1.gw (by omega)).mono ?_
     rintro e W3 ⟨rfl,hT3,hg3⟩
     have hc3:Chg (fun j=>j=bt) W2 W3:=Chg.ofGrown (X:=fun j=>j=bt) hg3 (fun k hk=>by injection hk with hk;exact hk.symm)
     have hs3:=hc3.size
     have hbZ:Below W3.heap.size W3 (W3.alloc (.cells #[.int .i64 0, .int .i64 0, .int .i64 0, .int .i64 0, .int .i64 0, .int .i64 0] 48)):=(Below.refl _ _).alloc (Nat.le_refl _) _
     have HE:=Lib.hid (show ∃ C' n1 nf1,PlI (W3.alloc (.cells #[.int .i64 0, .int .i64 0, .int .i64 0, .int .i64 0, .int .i64 0, .int .i64 0] 48)) lo qt bt L f fq m n1 nf1 C' ((((out.take (j+1)).filter (kpS L role tier g z)).map (fun r=>((0:Int),snS L role tier g r))).reverse ++ P)∧(n1≤n+2*(j+1)∧nf1≤nf+(j+1))∧Chg (CBX bt m fq C) W (W3.alloc (.cells #[.int .i64 0, .int .i64 0, .int .i64 0, .int .i64 0, .int .i64 0, .int .i64 0] 48))∧(∀ j,gP C' j→gP C j∨W.heap.size≤j) from ⟨C1,n1+2,nf1,by rw [HQ.out];exact (HT2.out.1.turn hc3 hT3).keep hbZ,⟨by omega,by omega⟩,((HR.out.2.2.1.trans HT2.out.2 (fun j hj => .inl (.inl hj))).trans hc3 (fun j hj => .inl (.inl hj))).trans (Chg.of (X:=fun _=>False) hbZ) (fun _ e=>e.elim),HR.out.2.2.2.1⟩)
     clear hT3 hg3 hc3 hbZ
     go_wp2_with fail
     go_roundw
     case rel=>exact ⟨j+1,by go_num,by omega,by simp;omega,HE.out⟩
     case measure=>simp [intOf];omega
    | true=>
     simp only [sel,if_true] at psee
     obtain ⟨x0',hx0⟩:∃ c,sn1 r.a r.b r.c r.d lv=c:=⟨_,rfl⟩
     obtain ⟨y0',hy0⟩:∃ c,sn2 r.a r.b r.c r.d lv=c:=⟨_,rfl⟩
     obtain ⟨x1',hx1⟩:∃ c,sn3 r.a r.b r.c r.d lv=c:=⟨_,rfl⟩
     obtain ⟨y1',hy1⟩:∃ c,sn4 r.a r.b r.c r.d lv=c:=⟨_,rfl⟩
     rw [hx0,hy0,hx1,hy1] at psee hsn
     have PS:=Lib.hid psee
     have HQ:=Lib.hid (HR.out.2.2.2.2.2.2.2.2.1 hsee0)
     have HN:=Lib.hid (And.intro (HR.out.2.2.2.2.2.1 hsee0) hsn)
     clear hT2 hg2 hg2' hc2 hbA x0 hwc psee hsB hsee0 hsn hlr r0 r1 r2 r3 r4 r5 hx0 hy0 hx1 hy1
     go_wp2_with fail
     go_at_call 50
     refine (PS.out _ HT2.out.1.tb HT2.out.1.gw (by omega)).mono ?_
     rintro e W3 ⟨rfl,hT3,hg3⟩
     have hc3:Chg (fun j=>j=bt) W2 W3:=Chg.ofGrown (X:=fun j=>j=bt) hg3 (fun k hk=>by injection hk with hk;exact hk.symm)
     have hs3:=hc3.size
     have f03:W3.cell? ⟨fb,0,none⟩=some (.pointer (some ⟨f,0,none⟩)):=(hc3.cell (p:=⟨fb,0,none⟩) (by show fb < _;omega) (by show ¬ fb=bt;omega)).trans f0
     have H3:=Lib.hid (And.intro (HT2.out.1.turn hc3 hT3) hc3)
     clear hT3 hg3 hc3 f0
     go_wp2_with fail
     go_at_call 41
     have hbZ:Below W3.heap.size W3 (W3.alloc (.cells #[.int .i64 r.id, .int .i64 lv, .int .i64 x0', .int .i64 y0', .int .i64 x1', .int .i64 y1'] 48)):=(Below.refl _ _).alloc (Nat.le_refl _) _
     have hPq:=H3.out.1.keep hbZ
     refine (fput_any f fq m nf1 (lookP ((((out.take j).filter (kpS L role tier g z)).map (fun r=>((0:Int),snS L role tier g r))).reverse ++ P)) C1 (entP ((((out.take j).filter (kpS L role tier g z)).map (fun r=>((0:Int),snS L role tier g r))).reverse ++ P)) 0 ⟨r.id,lv,x0',y0',x1',y1'⟩ _ hPq.fg hwf (by omega) (by rw [entP_len];have:=HR.out.2.2.2.2.2.2.1;omega)).mono ?_
     rintro e W5 ⟨rfl,C5,hF5,hc5,hC5⟩
     have hs5:=hc5.size
     have hsz5:W3.heap.size+1≤W5.heap.size:=by simp at hs5;omega
     have HE:=Lib.hid (show ∃ C' n1 nf1,PlI W5 lo qt bt L f fq m n1 nf1 C' ((((out.take (j+1)).filter (kpS L role tier g z)).map (fun r=>((0:Int),snS L role tier g r))).reverse ++ P)∧(n1≤n+2*(j+1)∧nf1≤nf+(j+1))∧Chg (CBX bt m fq C) W W5∧(∀ j,gP C' j→gP C j∨W.heap.size≤j) by
      refine ⟨C5,n1+2,nf1+1,?_,⟨by omega,by omega⟩,?_,fun j hj=>(hC5 j hj).elim (HR.out.2.2.2.1 j) (fun e => .inr (by simp at e;omega))⟩
      ·rw [HQ.out,HN.out.2]
       exact hPq.put HN.out.1 hwf hF5 hc5 hC5
      ·exact (((HR.out.2.2.1.trans HT2.out.2 (fun j hj => .inl (.inl hj))).trans H3.out.2 (fun j hj => .inl (.inl hj))).trans (Chg.of (X:=fun _=>False) hbZ) (fun _ e=>e.elim)).trans hc5 (fun j hj=>by
        rcases hj with e|e|e
        ·exact .inl (.inr (.inl e))
        ·exact .inl (.inr (.inr (.inl e)))
        ·exact (HR.out.2.2.2.1 j e).elim (fun e => .inl (.inr (.inr (.inr e)))) (fun e => .inr (by omega))))
     clear hF5 hc5 hC5 hPq hbZ
     go_wp2_with fail
     go_roundw
     case rel=>exact ⟨j+1,by go_num,by omega,by omega,HE.out⟩
     case measure=>simp [intOf];omega
   ·have hzb:(zt == z)=false:=by simpa using hzz
    have hzn:(zt != z)=true:=by simp [hzz]
    rw [hzb,Bool.and_false] at hsee0
    have HQ:=Lib.hid (HR.out.2.2.2.2.2.2.2.1 hsee0)
    have HE:=Lib.hid (show ∃ C' n1 nf1,PlI W2 lo qt bt L f fq m n1 nf1 C' ((((out.take (j+1)).filter (kpS L role tier g z)).map (fun r=>((0:Int),snS L role tier g r))).reverse ++ P)∧(n1≤n+2*(j+1)∧nf1≤nf+(j+1))∧Chg (CBX bt m fq C) W W2∧(∀ j,gP C' j→gP C j∨W.heap.size≤j) from ⟨C1,n1+1,nf1,by rw [HQ.out];exact HT2.out.1,⟨by omega,by omega⟩,HR.out.2.2.1.trans HT2.out.2 (fun j hj => .inl (.inl hj)),HR.out.2.2.2.1⟩)
    clear hT2 hg2 hg2' hc2 hbA hsee0 r0 r1 r2 r3 r4 r5
    go_wp2_with fail
    go_roundw
    case rel=>exact ⟨j+1,by go_num,by omega,by omega,HE.out⟩
    case measure=>simp [intOf];omega
  ·obtain rfl:j=k:=by omega
   have hdj:decide ((j:Int) < (j:Int))=false:=decide_eq_false (by omega)
   have HE:=Lib.hid (show Post (.returned (.tuple #[])) wr by
    rw [← hPost]
    refine ⟨rfl,_,_,C1,_,hP1,?_,by omega,by omega,(Chg.of (X:=CBX bt m fq C) HW.out.2.2.2.2.1).trans hc1 (fun j hj => .inl hj),fun j hj=>(hC1 j hj).elim .inl (fun e => .inr (by omega))⟩
    rw [show out.take j=out by rw [← HW.out.2.2.2.2.2.1,List.take_length]]
    exact (List.reverse_perm _).trans ((HW.out.2.2.1.filter _).map _))
   clear hrel hP1 hc1 hC1
   go_wp2_with fail
   exact bodyPost_end (v := .tuple #[]) (by first|rfl|kernel_rfl) rfl HE.out
end Go.Proofs.YthlijfligikciaaGreat
