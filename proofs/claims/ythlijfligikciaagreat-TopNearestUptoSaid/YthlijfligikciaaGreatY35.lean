/- A part of one proof: PgB Shq SoA SoB. No condition. -/
import Derived.Test.YthlijfligikciaaGreatY34
import Derived.Ground.GgsProg
import Derived.Shelf.GgSortFunc.Small
import Derived.Shelf.GgSortFunc.SmallK
import Derived.Shelf.SlSortFuncK.WholeK
import Derived.Test.YthlijfligikciaaGreatProg
import Derived.Shelf.GgSortFunc.Tiny
import Derived.Test.YthlijfligikciaaGreatY12
import Derived.Test.YthlijfligikciaaGreatY14
import Derived.Test.YthlijfligikciaaGreatY20
namespace Go.Proofs.YthlijfligikciaaGreat
open Go.RowKit Go.Maps
set_option linter.unusedSimpArgs false
set_option linter.unusedVariables false
set_option maxRecDepth 2000
def NSt (q qc qt wb vb pb mb fb f s cc:Nat) (Ct:Option Addr) (N:List NdP) (t:QT) (R:List Rc) (role tier px py:Int) (g:Gr) (w:World):Prop:=
 Wb w wb (some ⟨q,0,none⟩) (some ⟨qc,0,none⟩) qt∧Vb w vb role tier g∧Bb w pb mb fb f px py 64∧PtI w s q Ct cc N t R
def NSX (q wb vb pb mb fb s:Nat) (Ct:Option Addr) (N:List NdP):Nat→Prop:=fun j=>j=wb∨j=vb∨j=pb∨j=mb∨j=fb∨PX q Ct N j∨j=s
theorem nst_stab {q qc qt wb vb pb mb fb f s cc:Nat} {Ct:Option Addr} {N:List NdP} {t:QT} {R:List Rc} {role tier px py:Int} {g:Gr}:Stab (NSt q qc qt wb vb pb mb fb f s cc Ct N t R role tier px py g) (NSX q wb vb pb mb fb s Ct N) where
 st:=fun {X w w'} h hc hX=>⟨h.1.chg hc (hX _ (.inl rfl)),h.2.1.chg hc (hX _ (.inr (.inl rfl))),h.2.2.1.chg hc (hX _ (.inr (.inr (.inl rfl)))) (hX _ (.inr (.inr (.inr (.inl rfl))))) (hX _ (.inr (.inr (.inr (.inr (.inl rfl)))))),h.2.2.2.chg hc (fun k hk=>hX _ (.inr (.inr (.inr (.inr (.inr (.inl hk))))))) (hX _ (.inr (.inr (.inr (.inr (.inr (.inr rfl)))))))⟩
theorem nodup_take {α:Type} {f:α→Int} {L:List α} (hn:(L.map f).Nodup) {j:Nat} (hj:j < L.length):∀ u ∈ L.take j,f u≠f L[j]:=fun u hu e=>by
 have h9:L=L.take j ++ L[j] :: L.drop (j+1):=by rw [← List.drop_eq_getElem_cons hj,List.take_append_drop]
 have h8:=hn
 rw [h9,List.map_append,List.map_cons] at h8
 exact (List.nodup_append.1 h8).2.2 _ (List.mem_map.2 ⟨u,hu,rfl⟩) _ (List.mem_cons_self ..) e
set_option maxHeartbeats 16000000 in
theorem nearcb_any (lo qt bt:Nat) (L:List Rl) (role tier:Int) (g:Gr) (wb vb pb mb fb f fq m:Nat) (q qc s cc:Nat) (Ct:Option Addr) (N:List NdP) (t:QT) (R:List Rc) (px py:Int) (K B:Nat) (hcnt:cntB L≤1048576) (hn1:L.length≤1000000) (hR:R.length≤60) (hpf:fitsB px py=true) (hK:2*t.wt+R.length≤K)
  (hSX:∀ j,NSX q wb vb pb mb fb s Ct N j→j < B∧j≠bt∧j≠m∧j≠fq) (hfb:f≠bt):
  CbOk 43 #[.pointer (some ⟨wb,0,none⟩), .pointer (some ⟨vb,0,none⟩), .pointer (some ⟨pb,0,none⟩), .pointer (some ⟨mb,0,none⟩), .pointer (some ⟨fb,0,none⟩)] lo qt bt L f fq m K B g.zoom (NSt q qc qt wb vb pb mb fb f s cc Ct N t R role tier px py g) (nearQ L role tier g px py R):=by
 intro n nf C P z w hPl hSt hCB hBw hl0 hl16 hlz hdis hn hnf hPlen
 obtain ⟨lv,hlv⟩:∃ l,min z g.zoom=l:=⟨_,rfl⟩
 rw [hlv] at hl0 hl16 hlz ⊢
 show Calls Tryz.prog 43 #[.int .i64 z, .int .i64 lv, .pointer (some ⟨wb,0,none⟩), .pointer (some ⟨vb,0,none⟩), .pointer (some ⟨pb,0,none⟩), .pointer (some ⟨mb,0,none⟩), .pointer (some ⟨fb,0,none⟩)] w _
 have hwb:=hSX wb (.inl rfl)
 have hvb:=hSX vb (.inr (.inl rfl))
 have hpb:=hSX pb (.inr (.inr (.inl rfl)))
 have hmb:=hSX mb (.inr (.inr (.inr (.inl rfl))))
 have hfbb:=hSX fb (.inr (.inr (.inr (.inr (.inl rfl)))))
 have hsb:=hSX s (.inr (.inr (.inr (.inr (.inr (.inr rfl))))))
 have hnG:∀ b,b < B→b≠m→b≠fq→¬ gU (fun j=>j=fq∨j=m) C b:=fun b h1 h2 h3 e=>by
  rcases e with (e|e)|e
  ·exact h3 e
  ·exact h2 e
  ·have:=hCB b e;omega
 have hgw:=hPl.gw
 have PN:=Lib.hid (fun (Y:World) (hY:Below w.heap.size w Y) (hz:Y.cell? ⟨w.heap.size,0,none⟩=some (.int .i64 z))=>by
  have hS:=nst_stab.st (X:=fun _=>False) hSt (Chg.of hY) (fun _ _ e=>e)
  exact pnearest_any wb vb w.heap.size bt (kpR L role tier g z) (NrT lo qt bt L (some ⟨q,0,none⟩) (some ⟨qc,0,none⟩) role tier z g wb vb w.heap.size) (near_env lo qt bt L _ _ role tier z g wb vb w.heap.size hcnt hn1 ⟨hwb.2.1,hvb.2.1,by have:=hPl.ltb;omega⟩) (gU (fun j=>j=fq∨j=m) C) q s cc n 64 Ct N t R px py lv Y hS.2.2.2 ⟨hPl.tb.keep hY,⟨hS.1,hS.2.1,hz⟩,hnG wb hwb.1 hwb.2.2.1 hwb.2.2.2,hnG vb hvb.1 hvb.2.2.1 hvb.2.2.2,fun e=>by have:=hgw _ e;omega⟩ (fun x e=>Nat.lt_of_lt_of_le (hgw x e) hY.size) (by omega) (by omega) (by decide) (by omega) ⟨hl0,hl16⟩ hpf (fun j hj=>(hSX j (.inr (.inr (.inr (.inr (.inr (.inl hj))))))).2.1) hsb.2.1)
 have PSee:=Lib.hid (fun (r:Rc) (n9:Nat) (C9:Option Addr) (Y:World) (hT:Tb Y lo qt bt n9 L (gU (fun j=>j=fq∨j=m) C9)) (hg9:∀ x,gU (fun j=>j=fq∨j=m) C9 x→x < Y.heap.size) (hn9:n9 < 1000000)=>see_any (gU (fun j=>j=fq∨j=m) C9) lo qt bt n9 L (some ⟨q,0,none⟩) (some ⟨qc,0,none⟩) role tier r.id r.x r.y r.label g Y hT hg9 hn9 hcnt hn1)
 have hPw:∀ r ∈ R,wf64 r.id:=hSt.2.2.2.wf
 have hids:=hSt.2.2.2.ids
 have hw0:=hSt.1.c0
 have hwl:=hSt.1.lt
 obtain ⟨p0,p1,m0,f0⟩:=hSt.2.2.1
 have hpl:pb < w.heap.size:=cell_lt p0
 have hml:mb < w.heap.size:=cell_lt m0
 have hfl:fb < w.heap.size:=cell_lt f0
 have H:=Lib.hid (show PlI w lo qt bt L f fq m n nf C P∧NSt q qc qt wb vb pb mb fb f s cc Ct N t R role tier px py g w∧(∀ j,gP C j→B≤j)∧(∀ j,NSX q wb vb pb mb fb s Ct N j→j < B∧j≠bt∧j≠m∧j≠fq)∧(∀ p ∈ P,∀ q ∈ nearQ L role tier g px py R z,p.2.id≠q.2.id)∧(∀ r ∈ R,wf64 r.id)∧(R.map (·.id)).Nodup∧min z g.zoom=lv∧(∀ x,gU (fun j=>j=fq∨j=m) C x→x < w.heap.size) from ⟨hPl,hSt,hCB,hSX,hdis,hPw,hids,hlv,hgw⟩)
 have hbl:=hPl.ltb
 have hnbt:=hPl.nbt
 have hfql:=hPl.fg.q.lt
 have hmml:=hPl.fg.mp.lt
 have hffl:=hPl.fg.lt
 generalize hPost:CbPost lo qt bt L f fq m n nf C P K (nearQ L role tier g px py R z) w=Post
 clear hPl hSt hCB hSX hdis hPw hids hlv hgw hnG hpf
 go_enter Tryz.func43,Tryz.ntmps43
 go_wp2_with fail
 have hbw:Below w.heap.size w (w.alloc (.cells #[.int .i64 z] 3)):=(Below.refl _ _).alloc (Nat.le_refl _) _
 refine (PN.out _ hbw (by go_simp)).mono ?_
 rintro e W ⟨A,ca,out,n9,rfl,hown,hperm,hT,hn9,hc⟩
 have hcW:Chg (fun j=>j=bt) w W:=(Chg.of (X:=fun j=>j=bt) hbw).trans hc (fun j hj => .inl hj)
 have hsW:=hcW.size
 have hsW1:w.heap.size+1≤W.heap.size:=by have:=hc.size;simp at this;omega
 have hPW:PlI W lo qt bt L f fq m n9 nf C P:=H.out.1.turn hcW (hT.1.step (fun _ _ _ _=>rfl) (Nat.le_refl _) (fun x hx => .inl (.inl hx)))
 have hol:out.length≤60:=by have h9:=hperm.length_eq;have h8:=List.length_filter_le (kpR L role tier g z) R;omega
 have holR:out.length≤R.length:=by have h9:=hperm.length_eq;have h8:=List.length_filter_le (kpR L role tier g z) R;omega
 have hA:=hown.lt
 have hAw:∀ j,gP A j→w.heap.size < j∧j < W.heap.size:=fun j hj=>by have:=hA j (by rw [gOf_own];exact hj);simp at this;omega
 obtain ⟨k,hk⟩:∃ k,out.length=k:=⟨_,rfl⟩
 have hSW:NSt q qc qt wb vb pb mb fb f s cc Ct N t R role tier px py g W:=nst_stab.st H.out.2.1 hcW (fun j hj e=>(H.out.2.2.2.1 j hj).2.1 e)
 have HW:=Lib.hid (show PlI W lo qt bt L f fq m n9 nf C P∧W.ownsRow w.heap.size 32 4 (.slice A k ca) k (rcF out)∧out.Perm (R.filter (kpR L role tier g z))∧n9≤n+2*t.wt∧Chg (fun j=>j=bt) w W∧out.length=k∧(∀ j,gP A j→w.heap.size < j∧j < W.heap.size)∧NSt q qc qt wb vb pb mb fb f s cc Ct N t R role tier px py g W from ⟨hPW,by rw [← hk];exact own_base hown (by simp),hperm,hn9,hcW,hk,hAw,hSW⟩)
 rw [hk] at hol holR ⊢
 clear hown hT hc hcW hbw p0 p1 m0 f0 hPW hperm hA hAw hk hSW hn9 hw0
 go_wp2_with fail
 go_loopw [23] (fun i wr=>∃ j:Nat,i = .int .i64 j∧j≤k∧W.heap.size≤wr.heap.size∧Hid (∃ C',PlI wr lo qt bt L f fq m (n9+j) (nf+j) C' (((out.take j).map (fun r=>(dstS px py (snR L role tier g r),snR L role tier g r))).reverse ++ P)∧Chg (CBX bt m fq C) W wr∧(∀ j,gP C' j→gP C j∨W.heap.size≤j))) (fun i _=>k - (intOf i).toNat)
 case atStart=>exact ⟨0,rfl,Nat.zero_le _,Nat.le_refl _,⟨C,by simpa using HW.out.1,Chg.refl,fun j hj => .inl hj⟩⟩
 case round=>
  obtain ⟨j,rfl,hjk,hsz,hrel⟩:=hrel
  obtain ⟨C1,hP1,hc1,hC1⟩:=hrel.out
  by_cases hj:j < k
  ·have hrl:j < out.length:=by rw [HW.out.2.2.2.2.2.1];exact hj
   obtain ⟨r,hr⟩:∃ r,out[j]=r:=⟨_,rfl⟩
   have hro:r ∈ out:=by rw [← hr];exact List.getElem_mem hrl
   have hrf:=HW.out.2.2.1.mem_iff.1 hro
   obtain ⟨hrR,hkp⟩:=List.mem_filter.1 hrf
   have hCBX:∀ b,b < B→b≠bt→b≠m→b≠fq→¬ CBX bt m fq C b:=fun b h1 h2 h3 h4 e=>by
    rcases e with e|e|e|e
    ·exact h2 e
    ·exact h3 e
    ·exact h4 e
    ·have:=H.out.2.2.1 b e;omega
   have hAX:∀ b,(Value.slice A k ca).ownBlock=some b→¬ CBX bt m fq C b:=fun b hb e=>by
    rw [gOf_own] at hb
    have h1:=HW.out.2.2.2.2.2.2.1 b hb
    rcases e with e|e|e|e
    ·omega
    ·omega
    ·omega
    ·have:=H.out.1.fg.q.far b e;omega
   have hown1:=own_chg HW.out.2.1 hc1 hAX
   obtain ⟨b,cap2,hv,hlo,hblb⟩:=hown1.form (by omega)
   have hpb:A=some ⟨b,0,none⟩:=by injection hv
   have rc0:∀ m v,m < 4→(rcC r)[m]? = some v→wr.cell? ⟨b,j*4+m,none⟩=some v:=fun m v hm hv9=>by
    have h9:=hown1.cells (g:=b) (by rw [hpb];rfl) (j*4+m) v (by
     have:=flat_get rcC_len out j hrl m hm
     unfold rcF
     rw [this,hr]
     exact hv9)
    rw [Addr.add_lit,Nat.zero_add] at h9
    exact h9
   have r0:=rc0 0 _ (by decide) rfl
   have r1:=rc0 1 _ (by decide) rfl
   have r2:=rc0 2 _ (by decide) rfl
   have r3:=rc0 3 _ (by decide) rfl
   simp only [Nat.add_zero] at r0
   have hS1:=nst_stab.st HW.out.2.2.2.2.2.2.2 hc1 (fun b hb=>by have h9:=H.out.2.2.2.1 b hb;exact hCBX b h9.1 h9.2.1 h9.2.2.1 h9.2.2.2)
   have hS1':=hS1
   obtain ⟨⟨w0,w1,w2⟩,⟨v0,v1,v2,v3,v4,v5,v6,v7,v8,v9⟩,⟨p0,p1,m0,f0⟩,_⟩:=hS1'
   have hsee:seeB L role tier g r.x r.y r.label=true:=by
    unfold kpR seeR at hkp
    simp only [Bool.and_eq_true] at hkp
    exact hkp.1
   have hzr:zoomT L role tier r.label r.x r.y=z:=by
    unfold kpR zmR at hkp
    simp only [Bool.and_eq_true,beq_iff_eq] at hkp
    exact hkp.2
   have hlr:seeL L role tier g r.x r.y r.label=lv:=by unfold seeL;rw [hzr];exact H.out.2.2.2.2.2.2.2.1
   have psee:=PSee.out r (n9+j) C1
   unfold TabPost seenV at psee
   rw [hsee,hlr] at psee
   simp only [sel,if_true] at psee
   have hsn:snR L role tier g r=⟨r.id,lv,r.x / sd lv*sd lv,r.y / sd lv*sd lv,r.x / sd lv*sd lv+sd lv - 1,r.y / sd lv*sd lv+sd lv - 1⟩:=by unfold snR;rw [hlr]
   obtain ⟨x0,hx0⟩:∃ c,r.x / sd lv*sd lv=c:=⟨_,rfl⟩
   obtain ⟨y0,hy0⟩:∃ c,r.y / sd lv*sd lv=c:=⟨_,rfl⟩
   rw [hx0,hy0] at psee hsn
   obtain ⟨x1,hx1⟩:∃ c,x0+sd lv - 1=c:=⟨_,rfl⟩
   obtain ⟨y1,hy1⟩:∃ c,y0+sd lv - 1=c:=⟨_,rfl⟩
   rw [hx1,hy1] at psee hsn
   have PS:=Lib.hid psee
   have PD:=Lib.hid (fun (Y:World)=>dist_any x0 y0 x1 y1 px py Y)
   obtain ⟨dd,hdd⟩:∃ d,distI x0 y0 x1 y1 px py=d:=⟨_,rfl⟩
   rw [hdd] at PD
   have hnew:∀ p ∈ ((out.take j).map (fun r=>(dstS px py (snR L role tier g r),snR L role tier g r))).reverse ++ P,p.2.id≠r.id:=fun p hp e=>by
    rcases List.mem_append.1 hp with hp|hp
    ·obtain ⟨u,hu,rfl⟩:=List.mem_map.1 (List.mem_reverse.1 hp)
     have hno:(out.map (·.id)).Nodup:=((HW.out.2.2.1.map (·.id)).nodup_iff).2 (List.Nodup.sublist (List.Sublist.map _ (List.filter_sublist ..)) H.out.2.2.2.2.2.2.1)
     exact nodup_take hno hrl u hu (by rw [hr];exact e)
    ·exact H.out.2.2.2.2.1 p hp (dstS px py (snR L role tier g r),snR L role tier g r) (List.mem_map.2 ⟨r,hrf,rfl⟩) e
   have hplen:(((out.take j).map (fun r=>(dstS px py (snR L role tier g r),snR L role tier g r))).reverse ++ P).length≤200000:=by
    rw [List.length_append,List.length_reverse,List.length_map,List.length_take];omega
   have htk:((out.take (j+1)).map (fun r=>(dstS px py (snR L role tier g r),snR L role tier g r))).reverse ++ P=(dd,⟨r.id,lv,x0,y0,x1,y1⟩) :: (((out.take j).map (fun r=>(dstS px py (snR L role tier g r),snR L role tier g r))).reverse ++ P):=by
    rw [List.take_succ_eq_append_getElem hrl,hr,List.map_append,List.reverse_append,List.map_cons,List.map_nil,List.reverse_singleton,List.singleton_append,List.cons_append]
    congr 1
    rw [hsn]
    unfold dstS
    simp only [hdd]
   obtain ⟨P1,hP1e⟩:∃ z,((out.take j).map (fun r=>(dstS px py (snR L role tier g r),snR L role tier g r))).reverse ++ P=z:=⟨_,rfl⟩
   rw [hP1e] at hP1 hnew hplen htk
   have hwf:=H.out.2.2.2.2.2.1 r hrR
   have hgw1:=hP1.gw
   have HR:=Lib.hid (show PlI wr lo qt bt L f fq m (n9+j) (nf+j) C1 P1∧Chg (CBX bt m fq C) W wr∧(∀ j,gP C1 j→gP C j∨W.heap.size≤j)∧(∀ p ∈ P1,p.2.id≠r.id)∧P1.length≤200000∧((out.take (j+1)).map (fun r=>(dstS px py (snR L role tier g r),snR L role tier g r))).reverse ++ P=(dd,⟨r.id,lv,x0,y0,x1,y1⟩) :: P1∧(∀ x,gU (fun j=>j=fq∨j=m) C1 x→x < wr.heap.size)∧NSt q qc qt wb vb pb mb fb f s cc Ct N t R role tier px py g wr from ⟨hP1,hc1,hC1,hnew,hplen,htk,hgw1,hS1⟩)
   have hn9k:n9+j < 1000000:=by have:=HW.out.2.2.2.1;omega
   have hlt1:=hP1.ltb
   clear hrel hP1 hc1 hC1 hown1 hv rc0 hr hro hrf hkp hsee hzr hlr psee hsn hx0 hy0 hx1 hy1 hdd hnew hplen htk hP1e hgw1 hS1 hAX hCBX hrR
   rw [hpb]
   go_wp2_with fail
   go_at_call 8
   have hbA:Below wr.heap.size wr (wr.alloc (.cells #[.int .i64 r.id, .int .i64 r.x, .int .i64 r.y, .int .i64 r.label] 32)):=(Below.refl _ _).alloc (Nat.le_refl _) _
   refine (PS.out _ (HR.out.1.tb.keep hbA) (fun x hx=>Nat.lt_of_lt_of_le (HR.out.2.2.2.2.2.2.1 x hx) hbA.size) hn9k).mono ?_
   rintro e W2 ⟨rfl,hT2,hg2⟩
   have hc2:Chg (fun j=>j=bt) wr W2:=(Chg.of (X:=fun j=>j=bt) hbA).trans (Chg.ofGrown (X:=fun j=>j=bt) hg2 (fun k hk=>by injection hk with hk;exact hk.symm)) (fun j hj => .inl hj)
   have hs2:=hc2.size
   have p02:W2.cell? ⟨pb,0,none⟩=some (.int .i64 px):=(hc2.cell (p:=⟨pb,0,none⟩) (by show pb < _;omega) (by show ¬ pb=bt;omega)).trans p0
   have p12:W2.cell? ⟨pb,1,none⟩=some (.int .i64 py):=(hc2.cell (p:=⟨pb,1,none⟩) (by show pb < _;omega) (by show ¬ pb=bt;omega)).trans p1
   have f02:W2.cell? ⟨fb,0,none⟩=some (.pointer (some ⟨f,0,none⟩)):=(hc2.cell (p:=⟨fb,0,none⟩) (by show fb < _;omega) (by show ¬ fb=bt;omega)).trans f0
   have HT2:=Lib.hid (And.intro (HR.out.1.turn hc2 hT2) hc2)
   clear hT2 hg2 hc2 hbA w0 w1 w2 v0 v1 v2 v3 v4 v5 v6 v7 v8 v9 p0 p1 m0 f0 r0 r1 r2 r3
   go_wp2_with fail
   (refine wp_region_later_tail 6 (W2.heap.size+1) (by kernel_rfl) (by kernel_rfl) (by go_size) ?_;simp only [List.take_succ_cons,List.take_zero,List.drop_succ_cons,List.drop_zero];(repeat (go_big_quiet_step ((first|(go_at_call 46;exact Later.call _ (Nat.le_trans (by go_size) (Later.is _).size) (PD.out _))))));refine wpQuiet_nil ?_;intro Xq hlXq hmXq)
   have hbq:Below W2.heap.size W2 Xq.w:=q9l
   go_wp2_with fail
   go_at_call 41
   have hPq:=HT2.out.1.keep hbq
   refine (fput_any f fq m (nf+j) (lookP P1) C1 (entP P1) dd ⟨r.id,lv,x0,y0,x1,y1⟩ _ hPq.fg hwf (by omega) (by rw [entP_len];have:=HR.out.2.2.2.2.1;omega)).mono ?_
   rintro e W5 ⟨rfl,C5,hF5,hc5,hC5⟩
   have hsq:=hbq.size
   have hs5:=hc5.size
   have HE:=Lib.hid (show ∃ C',PlI W5 lo qt bt L f fq m (n9+(j+1)) (nf+(j+1)) C' (((out.take (j+1)).map (fun r=>(dstS px py (snR L role tier g r),snR L role tier g r))).reverse ++ P)∧Chg (CBX bt m fq C) W W5∧(∀ j,gP C' j→gP C j∨W.heap.size≤j) by
    refine ⟨C5,?_,?_,fun j hj=>(hC5 j hj).elim (HR.out.2.2.1 j) (fun e => .inr (by omega))⟩
    ·rw [HR.out.2.2.2.2.2.1]
     exact hPq.put HR.out.2.2.2.1 hwf hF5 hc5 hC5
    ·exact ((HR.out.2.1.trans HT2.out.2 (fun j hj => .inl (.inl hj))).trans (Chg.of (X:=fun _=>False) hbq) (fun _ e=>e.elim)).trans hc5 (fun j hj=>by
      rcases hj with e|e|e
      ·exact .inl (.inr (.inl e))
      ·exact .inl (.inr (.inr (.inl e)))
      ·exact (HR.out.2.2.1 j e).elim (fun e => .inl (.inr (.inr (.inr e)))) (fun e => .inr (by omega))))
   clear hF5 hc5 hC5 hPq hbq
   go_wp2_with fail
   go_roundw
   case rel=>exact ⟨j+1,by go_num,by omega,by omega,HE.out⟩
   case measure=>simp [intOf];omega
  ·obtain rfl:j=k:=by omega
   have hdj:decide ((j:Int) < (j:Int))=false:=decide_eq_false (by omega)
   have HE:=Lib.hid (show Post (.returned (.tuple #[])) wr by
    rw [← hPost]
    refine ⟨rfl,_,_,C1,_,hP1,?_,by have:=HW.out.2.2.2.1;omega,by omega,(HW.out.2.2.2.2.1.mono (X':=CBX bt m fq C) (fun j hj => .inl (.inl hj))).trans hc1 (fun j hj => .inl hj),fun j hj=>(hC1 j hj).elim .inl (fun e => .inr (by omega))⟩
    rw [show out.take j=out by rw [← HW.out.2.2.2.2.2.1,List.take_length]]
    exact (List.reverse_perm _).trans (HW.out.2.2.1.map _))
   clear hrel hP1 hc1 hC1
   go_wp2_with fail
   exact bodyPost_end (v := .tuple #[]) (by first|rfl|kernel_rfl) rfl HE.out
end Go.Proofs.YthlijfligikciaaGreat
namespace Go.Proofs
open Go.Shelf
def Tryz.laysGg6_ren:Go.Shelf.Ren:=⟨fun|6=>117|10=>147|11=>148|12=>149|13=>146|14=>150|24=>165|25=>166|26=>176|27=>177|28=>178|29=>179|30=>180|31=>181|32=>182|33=>183|34=>193|35=>194|36=>195|37=>196|38=>197|39=>201|n=>n,fun|20=>20|26=>78|35=>249|0=>0|37=>100|3=>3|41=>245|44=>254|49=>272|51=>99|4=>4|54=>279|53=>278|58=>269|5=>5|9=>9|60=>292|64=>290|66=>299|67=>150|17=>17|32=>246|33=>247|82=>314|12=>12|75=>307|76=>308|77=>309|78=>310|79=>311|80=>312|n=>n,fun|n=>n⟩
theorem Tryz.laysGg6:Go.Proofs.LaysGg.n6 Tryz.prog Tryz.laysGg6_ren:={
 mixed:=by kernel_rfl
 f6:=Tryz.func117.trans (congrArg some (by kernel_rfl))
 f10:=Tryz.func147.trans (congrArg some (by kernel_rfl))
 f11:=Tryz.func148.trans (congrArg some (by kernel_rfl))
 f12:=Tryz.func149.trans (congrArg some (by kernel_rfl))
 f13:=Tryz.func146.trans (congrArg some (by kernel_rfl))
 f14:=Tryz.func150.trans (congrArg some (by kernel_rfl))
 f24:=Tryz.func165.trans (congrArg some (by kernel_rfl))
 f25:=Tryz.func166.trans (congrArg some (by kernel_rfl))
 f26:=Tryz.func176.trans (congrArg some (by kernel_rfl))
 f27:=Tryz.func177.trans (congrArg some (by kernel_rfl))
 f28:=Tryz.func178.trans (congrArg some (by kernel_rfl))
 f29:=Tryz.func179.trans (congrArg some (by kernel_rfl))
 f30:=Tryz.func180.trans (congrArg some (by kernel_rfl))
 f31:=Tryz.func181.trans (congrArg some (by kernel_rfl))
 f32:=Tryz.func182.trans (congrArg some (by kernel_rfl))
 f33:=Tryz.func183.trans (congrArg some (by kernel_rfl))
 f34:=Tryz.func193.trans (congrArg some (by kernel_rfl))
 f35:=Tryz.func194.trans (congrArg some (by kernel_rfl))
 f36:=Tryz.func195.trans (congrArg some (by kernel_rfl))
 f37:=Tryz.func196.trans (congrArg some (by kernel_rfl))
 f38:=Tryz.func197.trans (congrArg some (by kernel_rfl))
 f39:=Tryz.func201.trans (congrArg some (by kernel_rfl))
 t0:=Tryz.underlying0
 a0:=Tryz.isAgg0
 z0:=Tryz.sizeOf0
 v0:=Tryz.zeroValue0
 i0:=by kernel_rfl
 t3:=Tryz.underlying3
 a3:=Tryz.isAgg3
 z3:=Tryz.sizeOf3
 v3:=Tryz.zeroValue3
 i3:=by kernel_rfl
 t4:=Tryz.underlying4
 a4:=Tryz.isAgg4
 z4:=Tryz.sizeOf4
 v4:=Tryz.zeroValue4
 i4:=by kernel_rfl
 t5:=Tryz.underlying5
 a5:=Tryz.isAgg5
 z5:=Tryz.sizeOf5
 v5:=Tryz.zeroValue5
 i5:=by kernel_rfl
 t9:=Tryz.underlying9
 a9:=Tryz.isAgg9
 z9:=Tryz.sizeOf9
 v9:=Tryz.zeroValue9
 i9:=by kernel_rfl
 t12:=Tryz.underlying12
 a12:=Tryz.isAgg12
 z12:=Tryz.sizeOf12
 v12:=Tryz.zeroValue12
 i12:=by kernel_rfl
 t17:=Tryz.underlying17
 a17:=Tryz.isAgg17
 z17:=Tryz.sizeOf17
 v17:=Tryz.zeroValue17
 i17:=by kernel_rfl
 t20:=Tryz.underlying20
 a20:=Tryz.isAgg20
 z20:=Tryz.sizeOf20
 v20:=Tryz.zeroValue20
 i20:=by kernel_rfl
 t26:=Tryz.underlying78
 a26:=Tryz.isAgg78
 z26:=Tryz.sizeOf78
 v26:=Tryz.zeroValue78
 i26:=by kernel_rfl
 t32:=Tryz.underlying246
 a32:=Tryz.isAgg246
 z32:=Tryz.sizeOf246
 v32:=Tryz.zeroValue246
 i32:=by kernel_rfl
 t33:=Tryz.underlying247
 a33:=Tryz.isAgg247
 z33:=Tryz.sizeOf247
 v33:=Tryz.zeroValue247
 i33:=by kernel_rfl
 t35:=Tryz.underlying249
 a35:=Tryz.isAgg249
 z35:=Tryz.sizeOf249
 v35:=Tryz.zeroValue249
 i35:=by kernel_rfl
 t37:=Tryz.underlying100
 a37:=Tryz.isAgg100
 z37:=Tryz.sizeOf100
 v37:=Tryz.zeroValue100
 i37:=by kernel_rfl
 t41:=Tryz.underlying245
 a41:=Tryz.isAgg245
 z41:=Tryz.sizeOf245
 v41:=Tryz.zeroValue245
 i41:=by kernel_rfl
 t44:=Tryz.underlying254
 a44:=Tryz.isAgg254
 z44:=Tryz.sizeOf254
 v44:=Tryz.zeroValue254
 i44:=by kernel_rfl
 t49:=Tryz.underlying272
 a49:=Tryz.isAgg272
 z49:=Tryz.sizeOf272
 v49:=Tryz.zeroValue272
 i49:=by kernel_rfl
 t51:=Tryz.underlying99
 a51:=Tryz.isAgg99
 z51:=Tryz.sizeOf99
 v51:=Tryz.zeroValue99
 i51:=by kernel_rfl
 t53:=Tryz.underlying278
 a53:=Tryz.isAgg278
 z53:=Tryz.sizeOf278
 v53:=Tryz.zeroValue278
 i53:=by kernel_rfl
 t54:=Tryz.underlying279
 a54:=Tryz.isAgg279
 z54:=Tryz.sizeOf279
 v54:=Tryz.zeroValue279
 i54:=by kernel_rfl
 t58:=Tryz.underlying269
 a58:=Tryz.isAgg269
 z58:=Tryz.sizeOf269
 v58:=Tryz.zeroValue269
 i58:=by kernel_rfl
 t60:=Tryz.underlying292
 a60:=Tryz.isAgg292
 z60:=Tryz.sizeOf292
 v60:=Tryz.zeroValue292
 i60:=by kernel_rfl
 t64:=Tryz.underlying290
 a64:=Tryz.isAgg290
 z64:=Tryz.sizeOf290
 v64:=Tryz.zeroValue290
 i64:=by kernel_rfl
 t66:=Tryz.underlying299
 a66:=Tryz.isAgg299
 z66:=Tryz.sizeOf299
 v66:=Tryz.zeroValue299
 i66:=by kernel_rfl
 t67:=Tryz.underlying150
 a67:=Tryz.isAgg150
 z67:=Tryz.sizeOf150
 v67:=Tryz.zeroValue150
 i67:=by kernel_rfl
 t75:=Tryz.underlying307
 a75:=Tryz.isAgg307
 z75:=Tryz.sizeOf307
 v75:=Tryz.zeroValue307
 i75:=by kernel_rfl
 t76:=Tryz.underlying308
 a76:=Tryz.isAgg308
 z76:=Tryz.sizeOf308
 v76:=Tryz.zeroValue308
 i76:=by kernel_rfl
 t77:=Tryz.underlying309
 a77:=Tryz.isAgg309
 z77:=Tryz.sizeOf309
 v77:=Tryz.zeroValue309
 i77:=by kernel_rfl
 t78:=Tryz.underlying310
 a78:=Tryz.isAgg310
 z78:=Tryz.sizeOf310
 v78:=Tryz.zeroValue310
 i78:=by kernel_rfl
 t79:=Tryz.underlying311
 a79:=Tryz.isAgg311
 z79:=Tryz.sizeOf311
 v79:=Tryz.zeroValue311
 i79:=by kernel_rfl
 t80:=Tryz.underlying312
 a80:=Tryz.isAgg312
 z80:=Tryz.sizeOf312
 v80:=Tryz.zeroValue312
 i80:=by kernel_rfl
 t82:=Tryz.underlying314
 a82:=Tryz.isAgg314
 z82:=Tryz.sizeOf314
 v82:=Tryz.zeroValue314
 i82:=by kernel_rfl }
end Go.Proofs
namespace Go.Proofs.YthlijfligikciaaGreat
open Go.RowKit Go.Maps Go.Lib Go.Sort Go.Shelf
set_option linter.unusedSimpArgs false
set_option linter.unusedVariables false
set_option maxRecDepth 2000
section
variable {α:Type} [Inhabited α] {enc:α→List Value} {k:Nat}
theorem flatK_list (hk:∀ a,(enc a).length=k) (L:List α):(flatK enc k L.toArray).toList=L.flatMap enc:=by
 apply List.ext_getElem?
 intro t
 by_cases ht:t < L.length*k
 ·have k0:0 < k:=by
   rcases Nat.eq_zero_or_pos k with h|h
   ·subst h;simp at ht
   ·exact h
  have hdiv:t / k < L.length:=(Nat.div_lt_iff_lt_mul k0).2 ht
  have h1:=flat_get hk L (t / k) hdiv (t % k) (Nat.mod_lt _ k0)
  rw [Nat.div_add_mod'] at h1
  rw [h1,Array.getElem?_toList,Array.getElem?_eq_getElem (by simpa using ht)]
  have hm:t % k < (enc L[t / k]).length:=by rw [hk];exact Nat.mod_lt _ k0
  simp [flatK,hdiv,hm]
 ·rw [List.getElem?_eq_none (by simp;omega),List.getElem?_eq_none (by rw [flat_len hk];omega)]
theorem holdsK_of_own {w:World} {g:Nat} {cur:Array Value} {e:TypeId} {L:List α} (hk:∀ a,(enc a).length=k) (hb:w.heap[g]? = some (.cells cur e (0,0))) (ht:cur.toList.take (L.length*k)=L.flatMap enc):HoldsK enc k w g 0 L.toArray:=by
 intro j hj
 have hj':j < L.length*k:=by simpa using hj
 refine ⟨?_,by simp [World.frozen?,hb]⟩
 have h1:(cur.toList.take (L.length*k))[j]? = (flatK enc k L.toArray).toList[j]? := by rw [ht,flatK_list hk]
 rw [List.getElem?_take_of_lt hj',Array.getElem?_toList,Array.getElem?_toList,Array.getElem?_eq_getElem (xs:=flatK enc k L.toArray) (by simpa using hj')] at h1
 simp only [World.cell?,hb,Nat.zero_add]
 simp only [Option.isSome_none,Bool.false_eq_true,if_false]
 rw [h1,getElem!_pos _ j (by simpa using hj')]
 rfl
theorem heap_put {w:World} {g n:Nat} {os:Array Obj} {cur:Array Value} {e:TypeId} {fr:Nat × Nat} (F:Array Value) (hb:w.heap[g]? = some (.cells cur e fr)):(grow (putRow id (Sort.ahead w n) g 0 F) os).heap[g]? = some (.cells (putCells id 0 F cur) e fr):=by
 have hg:g < w.heap.size:=(Array.getElem?_eq_some_iff.1 hb).1
 rw [heap_grow_old _ _ (by simpa using hg)]
 simp [putRow,mapBlock,Sort.ahead,Array.getElem?_modify,hb,onCells]
theorem grownBy_put {w:World} {g n:Nat} {os:Array Obj} (F:Array Value):w.grownBy (grow (putRow id (Sort.ahead w n) g 0 F) os) (some g):=by
 refine ⟨rfl,rfl,rfl,by simp,fun k hk hne=>?_⟩
 rw [heap_grow_old _ _ (by simpa using hk)]
 have:g≠k:=fun e=>hne (by rw [e])
 simp [putRow,mapBlock,Sort.ahead,Array.getElem?_modify,this]
theorem grownBy_new {w:World} {os:Array Obj} (x:Option Nat):w.grownBy (grow w os) x:=by
 refine ⟨rfl,rfl,rfl,by simp,fun k hk hne=>?_⟩
 rw [heap_grow_old _ _ (by simpa using hk)]
theorem take_put (cur F:Array Value) (h:F.size≤cur.size):(putCells id 0 F cur).toList.take F.size=F.toList:=by
 apply List.ext_getElem?
 intro j
 by_cases hj:j < F.size
 ·rw [List.getElem?_take_of_lt hj,Array.getElem?_toList,Array.getElem?_toList]
  simp [putCells,hj,show j < cur.size by omega]
 ·rw [List.getElem?_take_eq_none (by omega),List.getElem?_eq_none (by simp;omega)]
theorem ownsRow_put {w:World} {base g cap n:Nat} {e:TypeId} {os:Array Obj} {cur:Array Value} {L L':List α} (hk:∀ a,(enc a).length=k) (hl:L'.length=L.length) (hbase:base≤g) (hb:w.heap[g]? = some (.cells cur e (0,0)))
  (h1:L.length≤cap) (h2:cap≤maxLen) (h3:cur.size=cap*k):(grow (putRowK enc k (Sort.ahead w n) g 0 L'.toArray) os).ownsRow base e k (.slice (some ⟨g,0,none⟩) L.length cap) L.length (L'.flatMap enc):=by
 refine ⟨by rw [flat_len hk,hl], .inr ⟨g,cap,_,rfl,hbase,heap_put _ hb,h1,h2,by simp [putCells,h3],?_⟩⟩
 have hs:(flatK enc k L'.toArray).size=L.length*k:=by simp [hl]
 rw [← hs,take_put _ _ (by rw [hs,h3];exact Nat.mul_le_mul_right k h1),flatK_list hk]
theorem perm_of_in {L:List α} {d:Array α} (h:PermIn 0 L.toArray.size L.toArray d):d.toList.Perm L:=by
 obtain ⟨h1,_,h2⟩:=h
 have e1:d.extract 0 L.toArray.size=d:=by rw [← h1];simp
 have e2:L.toArray.extract 0 L.toArray.size=L.toArray:=by simp
 rw [e1,e2] at h2
 simpa using h2
end
theorem swo_by {α:Type} (f:α→Int):SWO (fun x y:α=>decide (f x < f y)) where
 irrefl:=fun x=>by simp
 trans:=fun x y z h1 h2=>by simp at *;omega
 ntrans:=fun x y z h1 h2=>by simp at *;omega
instance:Inhabited Rc:=⟨⟨0,0,0,0⟩⟩
instance:Inhabited Sh:=⟨⟨0,0,0,0,0,0⟩⟩
set_option maxHeartbeats 2000000 in
theorem less_rc (blk off c Bs size:Nat) (W:World) (G:Nat→Int) (hs:W.cell? ⟨Bs,0,none⟩=some (.slice (some ⟨blk,off,none⟩) size c)) (hc:∀ t,t < size→W.cell? ⟨blk,off+t*4,none⟩=some (.int .i64 (G t))) (i j:Nat) (hi:i < size) (hj:j < size) (_hsz:size < 4611686018427387904):
  Calls Tryz.prog 118 #[.int .i64 i, .int .i64 j, .pointer (some ⟨Bs,0,none⟩)] W fun e w'=>e = .returned (.bool (decide (G i < G j)))∧∃ q,w'=W.drewN q:=by
 have ci:=hc i hi
 have cj:=hc j hj
 go_enter Tryz.func118,Tryz.ntmps118
 go_wp2
 go_quiet (fail)
 go_wp2
 go_ret
 exact ⟨rfl,nq,rfl⟩
theorem sv_rc:(Tryz.prog.info? 32).isSome=true:=by kernel_rfl
theorem svl_rc:(Tryz.prog.info? 53).isSome=true:=by kernel_rfl
theorem swk_rc (n:Nat) (h2:2≤n):Lib.swapperK n ((Tryz.prog.info? 32).get sv_rc) 25=9:=by
 have a:((Tryz.prog.info? 32).get sv_rc).hasPointers=false:=by kernel_rfl
 have b:((Tryz.prog.info? 32).get sv_rc).bytes=4*8:=by kernel_rfl
 have c:(n == 0)=false:=by simp;omega
 have d:(n == 1)=false:=by simp;omega
 simp [Lib.swapperK,a,b,c,d]
theorem big_rc (blk c Bs:Nat) (L:List Rc) (w:World) (h2:2≤L.length) (hl:L.length≤1000000) (hH:HoldsK rcC 4 w blk 0 L.toArray) (hblk:blk < w.heap.size)
  (hBs:w.cell? ⟨Bs,0,none⟩=some (.slice (some ⟨blk,0,none⟩) L.length c)) (hB1:Bs < w.heap.size) (hB2:Bs≠blk):
  Calls Tryz.prog 117 #[.iface 53 (.slice (some ⟨blk,0,none⟩) L.length c), .func (.func 118) #[] #[.pointer (some ⟨Bs,0,none⟩)]] w fun e w'=>
   e = .returned (.tuple #[])∧∃ (L':List Rc) (n:Nat) (os:Array Obj),L'.Perm L∧w'=grow (putRowK rcC 4 (Sort.ahead w n) blk 0 L'.toArray) os:=by
 have hsz:L.toArray.size=L.length:=by simp
 have hless:LessReadsK Tryz.prog 118 #[.pointer (some ⟨Bs,0,none⟩)] rcC 4 (fun x y:Rc=>decide (x.id < y.id)) blk 0 L.toArray.size w:=by
  intro m os dk hs i j hi hj
  have e:sortWorldK rcC 4 w blk 0 m dk os=putRowK rcC 4 (grow (Sort.ahead w m) os) blk 0 dk:=by
   unfold sortWorldK;rw [putRowK_grow _ _ (Sort.ahead w m) _ blk 0 _ hblk]
  have hHg:HoldsK rcC 4 (grow (Sort.ahead w m) os) blk 0 L.toArray:=holdsK_grow _ _ _ _ blk 0 _ hblk (holdsK_ahead _ _ _ _ _ _ _ hH)
  refine less_rc blk 0 c Bs L.toArray.size _ (fun t=>(dk[t]!).id) ?_ (fun t ht=>?_) i j hi hj (by simp;omega)
  ·rw [e,cell?_putRowK_other _ _ _ blk 0 dk _ (by exact hB2),cell?_grow _ _ _ (by exact hB1),hsz];exact hBs
  ·rw [e];exact ((holdsK_putRowK _ _ _ blk 0 L.toArray dk hHg hs).cell (i:=t) (c:=0) (by omega) (by omega)).1
 have hl2:2≤L.toArray.size:=by rw [hsz];exact h2
 refine (Any.sort_Slice_cells_sorted Tryz.laysGg6 53 32 ((Tryz.prog.info? 53).get svl_rc) ((Tryz.prog.info? 32).get sv_rc) (by kernel_rfl) (by kernel_rfl) (by kernel_rfl) (by kernel_rfl) 25 (fun _=>by kernel_rfl) rcC 4 rcC_len (by kernel_rfl) (fun _=>by kernel_rfl)
  (fun x v hv=>by simp [rcC] at hv;rcases hv with rfl|rfl|rfl|rfl|rfl|rfl <;> rfl) _ (swo_by Rc.id) 118 _
  (enters_of Tryz.func118 (by kernel_rfl) rfl) blk 0 c L.toArray hl2 (by rw [hsz];omega) 175 (by rw [swk_rc _ hl2];kernel_rfl) false
  (fun args W=>run_callFunc_extern Tryz.func175 (by kernel_rfl) (by kernel_rfl) (by kernel_rfl) (e:=Extern.ReflectliteSwapper.swap false) (by kernel_rfl) args W) w hless hH hblk).mono ?_
 rintro e w' ⟨rfl,d',n,os,hp,_,rfl⟩
 exact ⟨rfl,d'.toList,n,os,perm_of_in hp,by simp⟩
theorem swk0_rc (n:Nat) (h:n≤1):Lib.swapperK n ((Tryz.prog.info? 32).get sv_rc) 25=n+1:=by
 match n,h with
 | 0,_=>rfl
 | 1,_=>rfl
theorem srt_rc (base c Bs:Nat) (A:Option Addr) (L:List Rc) (w:World) (hl:L.length≤1000000) (h:w.ownsRow base 32 4 (.slice A L.length c) L.length (rcF L))
  (hBs:w.cell? ⟨Bs,0,none⟩=some (.slice A L.length c)) (hB:∀ k,gP A k→Bs≠k):
  Calls Tryz.prog 117 #[.iface 53 (.slice A L.length c), .func (.func 118) #[] #[.pointer (some ⟨Bs,0,none⟩)]] w fun e w'=>
   e = .returned (.tuple #[])∧∃ L':List Rc,L'.Perm L∧w'.ownsRow base 32 4 (.slice A L.length c) L.length (rcF L')∧w.grownBy w' (gOf A):=by
 have hBl:Bs < w.heap.size:=cell_lt hBs
 by_cases h1:L.length≤1
 ·refine (Any.sort_Slice_tiny Tryz.laysGg6 53 32 ((Tryz.prog.info? 53).get svl_rc) ((Tryz.prog.info? 32).get sv_rc) (by kernel_rfl) (by kernel_rfl) (by kernel_rfl) (by kernel_rfl) 25 (fun _=>by kernel_rfl) A L.length c h1 (167+L.length) (by rw [swk0_rc _ h1];rcases (by omega:L.length=0∨L.length=1) with q|q <;> rw [q] <;> kernel_rfl) _ _ _ w).mono ?_
  rintro e w' ⟨rfl,os,rfl⟩
  have hg:w.grownBy (grow w os) (gOf A):=grownBy_new _
  have hg0:w.grownBy (grow w os) none:=grownBy_new _
  exact ⟨rfl,L,List.Perm.refl _,own_keep h ⟨hg0.os,hg0.tape,hg0.output,hg0.size,fun k hk=>hg0.block k hk (by simp)⟩,hg⟩
 ·rcases h.2 with ⟨hv,hn⟩|⟨g,cap,cur,hv,hb,hg,e1,e2,e3,e4⟩
  ·omega
  ·injection hv with v1 v2 v3
   subst v1 v3
   refine (big_rc g c Bs L w (by omega) hl (holdsK_of_own rcC_len hg e4) (Array.getElem?_eq_some_iff.1 hg).1 hBs hBl (hB g rfl)).mono ?_
   rintro e w' ⟨rfl,L',n,os,hp,rfl⟩
   exact ⟨rfl,L',hp,ownsRow_put rcC_len hp.length_eq hb hg e1 e2 e3,grownBy_put _⟩
set_option maxHeartbeats 2000000 in
theorem less_sh (blk off c Bs size:Nat) (W:World) (G:Nat→Int) (hs:W.cell? ⟨Bs,0,none⟩=some (.slice (some ⟨blk,off,none⟩) size c)) (hc:∀ t,t < size→W.cell? ⟨blk,off+t*6,none⟩=some (.int .i64 (G t))) (i j:Nat) (hi:i < size) (hj:j < size) (_hsz:size < 4611686018427387904):
  Calls Tryz.prog 128 #[.int .i64 i, .int .i64 j, .pointer (some ⟨Bs,0,none⟩)] W fun e w'=>e = .returned (.bool (decide (G i < G j)))∧∃ q,w'=W.drewN q:=by
 have ci:=hc i hi
 have cj:=hc j hj
 go_enter Tryz.func128,Tryz.ntmps128
 go_wp2
 go_quiet (fail)
 go_wp2
 go_ret
 exact ⟨rfl,nq,rfl⟩
theorem sv_sh:(Tryz.prog.info? 75).isSome=true:=by kernel_rfl
theorem svl_sh:(Tryz.prog.info? 54).isSome=true:=by kernel_rfl
theorem swk_sh (n:Nat) (h2:2≤n):Lib.swapperK n ((Tryz.prog.info? 75).get sv_sh) 25=9:=by
 have a:((Tryz.prog.info? 75).get sv_sh).hasPointers=false:=by kernel_rfl
 have b:((Tryz.prog.info? 75).get sv_sh).bytes=6*8:=by kernel_rfl
 have c:(n == 0)=false:=by simp;omega
 have d:(n == 1)=false:=by simp;omega
 simp [Lib.swapperK,a,b,c,d]
theorem big_sh (blk c Bs:Nat) (L:List Sh) (w:World) (h2:2≤L.length) (hl:L.length≤1000000) (hH:HoldsK shC 6 w blk 0 L.toArray) (hblk:blk < w.heap.size)
  (hBs:w.cell? ⟨Bs,0,none⟩=some (.slice (some ⟨blk,0,none⟩) L.length c)) (hB1:Bs < w.heap.size) (hB2:Bs≠blk):
  Calls Tryz.prog 117 #[.iface 54 (.slice (some ⟨blk,0,none⟩) L.length c), .func (.func 128) #[] #[.pointer (some ⟨Bs,0,none⟩)]] w fun e w'=>
   e = .returned (.tuple #[])∧∃ (L':List Sh) (n:Nat) (os:Array Obj),L'.Perm L∧w'=grow (putRowK shC 6 (Sort.ahead w n) blk 0 L'.toArray) os:=by
 have hsz:L.toArray.size=L.length:=by simp
 have hless:LessReadsK Tryz.prog 128 #[.pointer (some ⟨Bs,0,none⟩)] shC 6 (fun x y:Sh=>decide (x.id < y.id)) blk 0 L.toArray.size w:=by
  intro m os dk hs i j hi hj
  have e:sortWorldK shC 6 w blk 0 m dk os=putRowK shC 6 (grow (Sort.ahead w m) os) blk 0 dk:=by
   unfold sortWorldK;rw [putRowK_grow _ _ (Sort.ahead w m) _ blk 0 _ hblk]
  have hHg:HoldsK shC 6 (grow (Sort.ahead w m) os) blk 0 L.toArray:=holdsK_grow _ _ _ _ blk 0 _ hblk (holdsK_ahead _ _ _ _ _ _ _ hH)
  refine less_sh blk 0 c Bs L.toArray.size _ (fun t=>(dk[t]!).id) ?_ (fun t ht=>?_) i j hi hj (by simp;omega)
  ·rw [e,cell?_putRowK_other _ _ _ blk 0 dk _ (by exact hB2),cell?_grow _ _ _ (by exact hB1),hsz];exact hBs
  ·rw [e];exact ((holdsK_putRowK _ _ _ blk 0 L.toArray dk hHg hs).cell (i:=t) (c:=0) (by omega) (by omega)).1
 have hl2:2≤L.toArray.size:=by rw [hsz];exact h2
 refine (Any.sort_Slice_cells_sorted Tryz.laysGg6 54 75 ((Tryz.prog.info? 54).get svl_sh) ((Tryz.prog.info? 75).get sv_sh) (by kernel_rfl) (by kernel_rfl) (by kernel_rfl) (by kernel_rfl) 25 (fun _=>by kernel_rfl) shC 6 shC_len (by kernel_rfl) (fun _=>by kernel_rfl)
  (fun x v hv=>by simp [shC] at hv;rcases hv with rfl|rfl|rfl|rfl|rfl|rfl <;> rfl) _ (swo_by Sh.id) 128 _
  (enters_of Tryz.func128 (by kernel_rfl) rfl) blk 0 c L.toArray hl2 (by rw [hsz];omega) 175 (by rw [swk_sh _ hl2];kernel_rfl) false
  (fun args W=>run_callFunc_extern Tryz.func175 (by kernel_rfl) (by kernel_rfl) (by kernel_rfl) (e:=Extern.ReflectliteSwapper.swap false) (by kernel_rfl) args W) w hless hH hblk).mono ?_
 rintro e w' ⟨rfl,d',n,os,hp,_,rfl⟩
 exact ⟨rfl,d'.toList,n,os,perm_of_in hp,by simp⟩
theorem swk0_sh (n:Nat) (h:n≤1):Lib.swapperK n ((Tryz.prog.info? 75).get sv_sh) 25=n+1:=by
 match n,h with
 | 0,_=>rfl
 | 1,_=>rfl
theorem srt_sh (base c Bs:Nat) (A:Option Addr) (L:List Sh) (w:World) (hl:L.length≤1000000) (h:w.ownsRow base 75 6 (.slice A L.length c) L.length (shF L))
  (hBs:w.cell? ⟨Bs,0,none⟩=some (.slice A L.length c)) (hB:∀ k,gP A k→Bs≠k):
  Calls Tryz.prog 117 #[.iface 54 (.slice A L.length c), .func (.func 128) #[] #[.pointer (some ⟨Bs,0,none⟩)]] w fun e w'=>
   e = .returned (.tuple #[])∧∃ L':List Sh,L'.Perm L∧w'.ownsRow base 75 6 (.slice A L.length c) L.length (shF L')∧w.grownBy w' (gOf A):=by
 have hBl:Bs < w.heap.size:=cell_lt hBs
 by_cases h1:L.length≤1
 ·refine (Any.sort_Slice_tiny Tryz.laysGg6 54 75 ((Tryz.prog.info? 54).get svl_sh) ((Tryz.prog.info? 75).get sv_sh) (by kernel_rfl) (by kernel_rfl) (by kernel_rfl) (by kernel_rfl) 25 (fun _=>by kernel_rfl) A L.length c h1 (167+L.length) (by rw [swk0_sh _ h1];rcases (by omega:L.length=0∨L.length=1) with q|q <;> rw [q] <;> kernel_rfl) _ _ _ w).mono ?_
  rintro e w' ⟨rfl,os,rfl⟩
  have hg:w.grownBy (grow w os) (gOf A):=grownBy_new _
  have hg0:w.grownBy (grow w os) none:=grownBy_new _
  exact ⟨rfl,L,List.Perm.refl _,own_keep h ⟨hg0.os,hg0.tape,hg0.output,hg0.size,fun k hk=>hg0.block k hk (by simp)⟩,hg⟩
 ·rcases h.2 with ⟨hv,hn⟩|⟨g,cap,cur,hv,hb,hg,e1,e2,e3,e4⟩
  ·omega
  ·injection hv with v1 v2 v3
   subst v1 v3
   refine (big_sh g c Bs L w (by omega) hl (holdsK_of_own shC_len hg e4) (Array.getElem?_eq_some_iff.1 hg).1 hBs hBl (hB g rfl)).mono ?_
   rintro e w' ⟨rfl,L',n,os,hp,rfl⟩
   exact ⟨rfl,L',hp,ownsRow_put shC_len hp.length_eq hb hg e1 e2 e3,grownBy_put _⟩
end Go.Proofs.YthlijfligikciaaGreat
