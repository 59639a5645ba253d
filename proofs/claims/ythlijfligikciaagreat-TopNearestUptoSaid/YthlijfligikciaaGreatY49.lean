/- A part of one proof: TnA TsD TsE. No condition. -/
import Derived.Test.YthlijfligikciaaGreatY48
import Derived.Test.YthlijfligikciaaGreatY13
import Derived.Laws.ResultCell
import Derived.Test.YthlijfligikciaaGreatY34
import Derived.Test.YthlijfligikciaaGreatY32
namespace Go.Proofs.YthlijfligikciaaGreat
open Go.RowKit Go.Maps
set_option linter.unusedSimpArgs false
set_option linter.unusedVariables false
set_option maxRecDepth 2000
theorem Sns.chg {X:Nat→Prop} {w w':World} {B:Nat} {A:Option Addr} {M:List Sn} (h:Sns w B A M) (hc:Chg X w w') (hA:∀ a,A=some a→¬ X a.block) (hB:B≤w.heap.size):Sns w' B A M:=fun hp=>by
 obtain ⟨b,o,e,hb,hcs⟩:=h hp
 have k:∀ i,w'.cell? ⟨b,i,none⟩=w.cell? ⟨b,i,none⟩:=fun i=>hc.cell (p:=⟨b,i,none⟩) (Nat.lt_of_lt_of_le hb hB) (hA ⟨b,o,none⟩ e)
 exact ⟨b,o,e,hb,fun i hi=>by obtain ⟨h0,h1,h2,h3,h4,h5⟩:=hcs i hi;exact ⟨(k _).trans h0,(k _).trans h1,(k _).trans h2,(k _).trans h3,(k _).trans h4,(k _).trans h5⟩⟩
theorem Sns.take {w:World} {B k:Nat} {A:Option Addr} {M:List Sn} (h:Sns w B A M):Sns w B A (M.take k):=fun hp=>by
 rw [List.length_take] at hp
 obtain ⟨b,o,e,hb,hcs⟩:=h (by omega)
 refine ⟨b,o,e,hb,fun i hi=>?_⟩
 rw [List.length_take] at hi
 have e9:(M.take k).getD i sn0=M.getD i sn0:=by simp [List.getD,List.getElem?_take,show i < k by omega]
 rw [e9]
 exact hcs i (by omega)
def Bnd (w:World) (wk vk pk rk q qc qt:Nat) (role tier px py:Int) (g:Gr):Prop:=
 Wb w wk (some ⟨q,0,none⟩) (some ⟨qc,0,none⟩) qt∧Vb w vk role tier g∧(w.cell? ⟨pk,0,none⟩=some (.int .i64 px)∧w.cell? ⟨pk,1,none⟩=some (.int .i64 py))∧Rb w rk px py px py
theorem Bnd.chg {w w':World} {wk vk pk rk q qc qt bt:Nat} {role tier px py:Int} {g:Gr} (h:Bnd w wk vk pk rk q qc qt role tier px py g) (hc:Chg (fun j=>j=bt) w w') (h1:wk≠bt) (h2:vk≠bt) (h3:pk≠bt) (h4:rk≠bt):Bnd w' wk vk pk rk q qc qt role tier px py g:=
 ⟨h.1.chg hc h1,h.2.1.chg hc h2,⟨(hc.cell (p:=⟨pk,0,none⟩) (cell_lt h.2.2.1.1) h3).trans h.2.2.1.1,(hc.cell (p:=⟨pk,1,none⟩) (cell_lt h.2.2.1.2) h3).trans h.2.2.1.2⟩,h.2.2.2.chg hc h4⟩
set_option maxHeartbeats 16000000 in
theorem nearest_all (hseen:SeenOk) (n c nr cr ns cs:Nat) (A AR AS:Option Addr) (L:List Rl) (P:Nat→Option Addr × Nat) (R:List Rc) (S:List Sh) (role tier px py:Int) (g:Gr) (w:World) (h:Rls w w.heap.size A L P) (hn:L.length=n) (hcnt:cntB L≤1048576) (hPn:∀ i,i < n→(P i).1=none→(L.getD i rl0).boxes.length=0) (hR:Rcs w AR R) (hRn:R.length=nr) (hRw:∀ r ∈ R,wf64 r.id) (hS:Shs w AS S) (hSn:S.length=ns) (hSw:∀ s ∈ S,wf64 s.id):
  Calls Tryz.prog 4 #[.slice A n c, .slice AR nr cr, .slice AS ns cs, .agg #[.int .i64 role, .int .i64 tier, .int .i64 g.ops, .int .i64 g.zoom, .int .i64 g.a, .int .i64 g.b, .int .i64 g.c, .int .i64 g.d, .bool g.void, .int .i64 g.til], .agg #[.int .i64 px, .int .i64 py]] w fun e w'=>e = .returned (.bool true)∧Below w.heap.size w w':=by
 have PS:=Lib.hid (fun (Y:World)=>hseen Y)
 clear hseen
 by_cases hA:n≤8
 ·by_cases hB:nr≤60
  ·by_cases hC:ns≤60
   ·have hn1:n≤1000000:=by omega
    have PW:=Lib.hid (fun (Y:World) (hY:Below w.heap.size w Y)=>wld_any n c nr cr ns cs A AR AS L P R S Y ((h.keep hY).more hY.size) hn hn1 hcnt hPn (hR.same (fun j hj=>hY.block j hj) hY.size) hRn hB hRw (hS.same (fun j hj=>hY.block j hj) hY.size) hSn hC hSw)
    have hdA:decide ((8:Int) < (n:Int))=false:=decide_eq_false (by omega)
    have hdB:decide ((60:Int) < (nr:Int))=false:=decide_eq_false (by omega)
    have hdC:decide ((60:Int) < (ns:Int))=false:=decide_eq_false (by omega)
    have HN:=Lib.hid (show (insN R R.length).length≤60∧(putN S S.length).length≤60∧cntB L≤1048576∧L.length≤1000000 from ⟨Nat.le_trans (insN_len R _) (by omega),Nat.le_trans (putN_len S _) (by omega),hcnt,by omega⟩)
    have pf:=fun (Y:World)=>fits_any px py Y
    obtain ⟨fB,hfB⟩:∃ z,fitsB px py=z:=⟨_,rfl⟩
    rw [hfB] at pf
    have PF:=Lib.hid pf
    have HFB:=Lib.hid hfB
    clear h hn hn1 hcnt hPn hR hRn hRw hS hSn hSw pf hfB
    go_enter Tryz.func4,Tryz.ntmps4
    go_wp2_with fail
    go_at_call 6
    refine (PW.out _ q9l).mono ?_
    rintro e w' ⟨hb,⟨q,qc,lo,qt,bt,s,C,cc,N,t,bm,z,tt,rfl,hT,hP,hCt,hX,hY,hbt⟩|rfl⟩
    ·have hbl:=hT.ltb
     have HW:=Lib.hid (show WS lo qt bt L s q C cc N t (insN R R.length) qc bm z tt (putN S S.length) 0 w'∧(∀ j,(PX q C N j∨j=s)→j≠bt)∧(∀ j,(CX bm tt j∨j=qc)→j≠bt) from ⟨⟨hT,hP,hCt⟩,hX,hY⟩)
     simp only [World.size_alloc] at hbt
     obtain ⟨X1,rfl,hl1,hm1⟩:=later _ hb (Nat.le_refl _)
     have hz1:w.heap.size+2≤X1.w.heap.size:=Nat.le_trans (by simp) hl1
     clear hb hT hP hCt hX hY
     cases fB with
     | false=>
      go_wp2_with (first
       | (go_at_call 10;refine (PF.out _).mono ?_;rintro e w' ⟨rfl,hb⟩;obtain ⟨X2,rfl,hl2,hm2⟩:=later _ hb (Nat.le_refl _);clear hb;(try simp only [q9A,q9B,q9D] at hm2 hl2))
       | (go_at_call 5;refine (PS.out _).mono ?_;rintro e w' ⟨rfl,hb⟩;obtain ⟨X3,rfl,hl3,hm3⟩:=later _ hb (Nat.le_refl _);clear hb;(try simp only [q9A,q9B,q9D] at hm3 hl3)))
      go_ret
      exact ⟨rfl,q9l⟩
     | true=>
      go_wp2_with (first
       | (go_at_call 10;refine (PF.out _).mono ?_;rintro e w' ⟨rfl,hb⟩;obtain ⟨X2,rfl,hl2,hm2⟩:=later _ hb (Nat.le_refl _);clear hb;(try simp only [q9A,q9B,q9D] at hm2 hl2)))
      have hsY:w.heap.size+2≤X1.w.heap.size∧X1.w.heap.size+1≤X2.w.heap.size∧(X2.w.alloc (.cells #[.int .i64 px, .int .i64 py, .int .i64 px, .int .i64 py] 24)).heap.size=X2.w.heap.size+1:=⟨hz1,by go_size,by simp⟩
      have hBn:Bnd (X2.w.alloc (.cells #[.int .i64 px, .int .i64 py, .int .i64 px, .int .i64 py] 24)) X1.w.heap.size w.heap.size (w.heap.size+1) X2.w.heap.size q qc qt role tier px py g:=⟨⟨by go_simp,by go_simp,by go_simp⟩,⟨by go_simp,by go_simp,by go_simp,by go_simp,by go_simp,by go_simp,by go_simp,by go_simp,by go_simp,by go_simp⟩,⟨by go_simp,by go_simp⟩,⟨by go_simp,by go_simp,by go_simp,by go_simp⟩⟩
      have hbY:Below w.heap.size w (X2.w.alloc (.cells #[.int .i64 px, .int .i64 py, .int .i64 px, .int .i64 py] 24)):=q9l
      have hb1Y:Below X1.w.heap.size X1.w (X2.w.alloc (.cells #[.int .i64 px, .int .i64 py, .int .i64 px, .int .i64 py] 24)):=q9l
      have hWS:=HW.out.1.chg HW.out.2.1 HW.out.2.2 (Chg.of hb1Y) (HW.out.1.1.keep hb1Y)
      generalize (X2.w.alloc (.cells #[.int .i64 px, .int .i64 py, .int .i64 px, .int .i64 py] 24))=Y at hsY hBn hbY hb1Y hWS ⊢
      obtain ⟨hsY1,hsY2,hsY3⟩:=hsY
      have HB0:=Lib.hid hBn
      have HS0:=Lib.hid hWS
      have HBY:=Lib.hid hbY
      have hn0:=HN.out
      obtain ⟨E,hE⟩:∃ E:Int,(if rightW role tier g=true then (0:Int) else 1)=E:=⟨_,rfl⟩
      obtain ⟨hXn,hYn⟩:=HW.out.2
      have HXY:=Lib.hid (And.intro hXn hYn)
      obtain ⟨wk,hwk⟩:∃ z,X1.w.heap.size=z:=⟨_,rfl⟩
      obtain ⟨rk,hrk⟩:∃ z,X2.w.heap.size=z:=⟨_,rfl⟩
      rw [hwk] at hsY1 hsY2 HB0 hbl ⊢
      rw [hrk] at hsY2 hsY3 HB0 ⊢
      obtain ⟨R',hR'⟩:∃ z,insN R R.length=z:=⟨_,rfl⟩
      obtain ⟨S',hS'⟩:∃ z,putN S S.length=z:=⟨_,rfl⟩
      rw [hR'] at hn0 HS0
      rw [hS'] at hn0 HS0
      obtain ⟨hnR,hnS,hnc,hnL⟩:=hn0
      have hlb:w.heap.size≤bt:=by omega
      clear hBn hbY hb1Y hWS hXn hYn hwk hrk hR' hS' HW HN PW PF hl1 hm1 hz1
      obtain ⟨⟨w0,w1,w2⟩,⟨v0,v1,v2,v3,v4,v5,v6,v7,v8,v9⟩,⟨p0,p1⟩,⟨r0,r1,r2,r3⟩⟩:=HB0.out
      go_wp2_with fail
      refine (row_win lo qt bt L s q C cc N t R' qc bm z tt S' 0 role tier px py g Y HS0.out HXY.out.1 HXY.out.2 hnR hnS hnc hnL HFB.out (by omega)).mono ?_
      rintro e W1 ⟨A1,ca1,M1,er1,kt1,rfl,hS1,hk1,hSn1,⟨hle1,hm1⟩,hfar1,her1,htr1,hno1,hc1⟩
      have hz1:=hc1.size
      have HB1:=Lib.hid (HB0.out.chg hc1 (by omega) (by omega) (by omega) (by omega))
      have HS1:=Lib.hid hS1
      have HR1:=Lib.hid (And.intro hSn1 (And.intro hfar1 (And.intro htr1 (And.intro hno1 hc1))))
      rw [hE] at her1
      subst her1
      clear w0 w1 w2 v0 v1 v2 v3 v4 v5 v6 v7 v8 v9 p0 p1 r0 r1 r2 r3 hS1 hSn1 hfar1 htr1 hno1 hc1
      obtain ⟨⟨w0,w1,w2⟩,⟨v0,v1,v2,v3,v4,v5,v6,v7,v8,v9⟩,⟨p0,p1⟩,⟨r0,r1,r2,r3⟩⟩:=HB1.out
      go_wp2_with fail
      refine (row_near lo qt bt L s q C cc N t R' qc bm z tt S' kt1 role tier px py g W1 HS1.out HXY.out.1 HXY.out.2 hnR hnS hnc hnL HFB.out (by omega)).mono ?_
      rintro e W2 ⟨A2,ca2,M2,er2,kt2,rfl,hS2,hk2,hSn2,⟨hle2,hm2⟩,hfar2,her2,htr2,hno2,hc2⟩
      have hz2:=hc2.size
      have HB2:=Lib.hid (HB1.out.chg hc2 (by omega) (by omega) (by omega) (by omega))
      have HS2:=Lib.hid hS2
      have HR2:=Lib.hid (And.intro hSn2 (And.intro hfar2 (And.intro htr2 (And.intro hno2 hc2))))
      rw [hE] at her2
      subst her2
      clear w0 w1 w2 v0 v1 v2 v3 v4 v5 v6 v7 v8 v9 p0 p1 r0 r1 r2 r3 hS2 hSn2 hfar2 htr2 hno2 hc2
      obtain ⟨⟨w0,w1,w2⟩,⟨v0,v1,v2,v3,v4,v5,v6,v7,v8,v9⟩,⟨p0,p1⟩,⟨r0,r1,r2,r3⟩⟩:=HB2.out
      go_wp2_with fail
      refine (row_clk lo qt bt L s q C cc N t R' qc bm z tt S' kt2 role tier px py g W2 HS2.out HXY.out.1 HXY.out.2 hnR hnS hnc hnL HFB.out (by omega)).mono ?_
      rintro e W3 ⟨A3,ca3,M3,er3,kt3,rfl,hS3,hk3,hSn3,⟨hle3,hm3⟩,hfar3,her3,htr3,hno3,hc3⟩
      have hz3:=hc3.size
      have HB3:=Lib.hid (HB2.out.chg hc3 (by omega) (by omega) (by omega) (by omega))
      have HS3:=Lib.hid hS3
      have HR3:=Lib.hid (And.intro hSn3 (And.intro hfar3 (And.intro htr3 (And.intro hno3 hc3))))
      rw [hE] at her3
      subst her3
      clear w0 w1 w2 v0 v1 v2 v3 v4 v5 v6 v7 v8 v9 p0 p1 r0 r1 r2 r3 hS3 hSn3 hfar3 htr3 hno3 hc3
      obtain ⟨⟨w0,w1,w2⟩,⟨v0,v1,v2,v3,v4,v5,v6,v7,v8,v9⟩,⟨p0,p1⟩,⟨r0,r1,r2,r3⟩⟩:=HB3.out
      go_wp2_with fail
      refine (row_nearc lo qt bt L s q C cc N t R' qc bm z tt S' kt3 role tier px py g W3 HS3.out HXY.out.1 HXY.out.2 hnR hnS hnc hnL HFB.out (by omega)).mono ?_
      rintro e W4 ⟨A4,ca4,M4,er4,kt4,rfl,hS4,hk4,hSn4,⟨hle4,hm4⟩,hfar4,her4,htr4,hno4,hc4⟩
      have hz4:=hc4.size
      have HB4:=Lib.hid (HB3.out.chg hc4 (by omega) (by omega) (by omega) (by omega))
      have HS4:=Lib.hid hS4
      have HR4:=Lib.hid (And.intro hSn4 (And.intro hfar4 (And.intro htr4 (And.intro hno4 hc4))))
      rw [hE] at her4
      subst her4
      clear w0 w1 w2 v0 v1 v2 v3 v4 v5 v6 v7 v8 v9 p0 p1 r0 r1 r2 r3 hS4 hSn4 hfar4 htr4 hno4 hc4
      obtain ⟨⟨w0,w1,w2⟩,⟨v0,v1,v2,v3,v4,v5,v6,v7,v8,v9⟩,⟨p0,p1⟩,⟨r0,r1,r2,r3⟩⟩:=HB4.out
      have hc24:Chg (fun j=>j=bt) W2 W4:=HR3.out.2.2.2.2.trans HR4.out.2.2.2.2 (fun j e => .inl e)
      have hc14:Chg (fun j=>j=bt) W1 W4:=HR2.out.2.2.2.2.trans hc24 (fun j e => .inl e)
      have hs1:=(HR1.out.1.chg hc14 (fun a e e'=>by have h1:=HR1.out.2.1 a e;have e':a.block=bt:=e';omega) (Nat.le_refl _)).more hc14.size
      have hs2:=(HR2.out.1.chg hc24 (fun a e e'=>by have h1:=HR2.out.2.1 a e;have e':a.block=bt:=e';omega) (Nat.le_refl _)).more hc24.size
      have hs3:=(HR3.out.1.chg HR4.out.2.2.2.2 (fun a e e'=>by have h1:=HR3.out.2.1 a e;have e':a.block=bt:=e';omega) (Nat.le_refl _)).more HR4.out.2.2.2.2.size
      have hs4:=HR4.out.1
      have hbW:Below w.heap.size w W4:=HBY.out.trans ((HR1.out.2.2.2.2.trans hc14 (fun j e => .inl e)).below (B:=w.heap.size) (fun j e=>by have e':j=bt:=e;omega) HBY.out.size)
      have hcw:∀ k,M2.take k=M2.takeWhile (fun s=>decide (dstS px py s=0))→decide (M1=M2.take k)=true:=fun k hk=>by
       refine decide_eq_true ?_
       rw [hk]
       cases hrw:rightW role tier g with
       | true=>exact win_take hrw HFB.out (HR1.out.2.2.1 hrw) (HR2.out.2.2.1 hrw)
       | false=>rw [HR1.out.2.2.2.1 hrw,HR2.out.2.2.2.1 hrw];rfl
      have hcc:∀ k,M4.take k=M4.takeWhile (fun s=>decide (dstS px py s=0))→decide (M3=M4.take k)=true:=fun k hk=>by
       refine decide_eq_true ?_
       rw [hk]
       cases hrw:rightW role tier g with
       | true=>exact clk_take hrw HFB.out (HR3.out.2.2.1 hrw) (HR4.out.2.2.1 hrw)
       | false=>rw [HR3.out.2.2.2.1 hrw,HR4.out.2.2.2.1 hrw];rfl
      have HC:=Lib.hid (And.intro hs1 (And.intro hs2 (And.intro hs3 (And.intro hs4 (And.intro hbW (And.intro hcw hcc))))))
      have hpk:w.heap.size+1 < W4.heap.size:=by omega
      clear hc24 hc14 hs1 hs2 hs3 hs4 hbW hcw hcc HR1 HR2 HR3 HR4 HS0 HS1 HS2 HS3 HS4 HB0 HB1 HB2 HB3 HB4 hE HXY
      go_wp2_with fail
      go_at_call 16
      refine (without_any M2.length ca2 A2 M2 px py W4 HC.out.2.1 rfl hle2 (by omega)).mono ?_
      rintro e w' ⟨⟨k2,rfl,hk2,htk2⟩,hb⟩
      obtain ⟨X5,rfl,hl5,hm5⟩:=later _ hb (Nat.le_refl _)
      clear hb
      go_wp2_with fail
      go_at_call 15
      refine (same_any M1.length k2 ca1 ca2 A1 A2 M1 (M2.take k2) _ ((HC.out.1.keep q9l).more hm5) ((HC.out.2.1.keep q9l).more hm5).take rfl (by rw [List.length_take];omega) (by omega)).mono ?_
      rw [HC.out.2.2.2.2.2.1 k2 htk2]
      rintro e w' ⟨rfl,hb⟩
      obtain ⟨X6,rfl,hl6,hm6⟩:=later _ hb (Nat.le_refl _)
      clear hb
      go_wp2_with fail
      go_at_call 16
      refine (without_any M4.length ca4 A4 M4 px py _ ((HC.out.2.2.2.1.keep q9l).more (by omega)) rfl hle4 (by omega)).mono ?_
      rintro e w' ⟨⟨k4,rfl,hk4,htk4⟩,hb⟩
      obtain ⟨X7,rfl,hl7,hm7⟩:=later _ hb (Nat.le_refl _)
      clear hb
      go_wp2_with fail
      go_at_call 15
      refine (same_any M3.length k4 ca3 ca4 A3 A4 M3 (M4.take k4) _ ((HC.out.2.2.1.keep q9l).more (by omega)) ((HC.out.2.2.2.1.keep q9l).more (by omega)).take rfl (by rw [List.length_take];omega) (by omega)).mono ?_
      rw [HC.out.2.2.2.2.2.2 k4 htk4]
      rintro e w' ⟨rfl,hb⟩
      obtain ⟨X8,rfl,hl8,hm8⟩:=later _ hb (Nat.le_refl _)
      clear hb
      go_wp2_with (first
       | (go_at_call 5;refine (PS.out _).mono ?_;rintro e w' ⟨rfl,hb⟩;obtain ⟨X9,rfl,hl9,hm9⟩:=later _ hb (Nat.le_refl _);clear hb;(try simp only [q9A,q9B,q9D] at hm9 hl9)))
      go_ret
      exact ⟨rfl,HC.out.2.2.2.2.1.trans ((show Below W4.heap.size W4 X9.w from q9l).mono HC.out.2.2.2.2.1.size)⟩
    ·obtain ⟨X1,rfl,hl1,hm1⟩:=later _ hb (Nat.le_refl _)
     have hz1:w.heap.size+2≤X1.w.heap.size:=Nat.le_trans (by simp) hl1
     clear hb
     go_wp2_with (first
      | (go_at_call 5;refine (PS.out _).mono ?_;rintro e w' ⟨rfl,hb⟩;obtain ⟨X3,rfl,hl3,hm3⟩:=later _ hb (Nat.le_refl _);clear hb;(try simp only [q9A,q9B,q9D] at hm3 hl3)))
     go_ret
     exact ⟨rfl,q9l⟩
   ·have hdA:decide ((8:Int) < (n:Int))=false:=decide_eq_false (by omega)
    have hdB:decide ((60:Int) < (nr:Int))=false:=decide_eq_false (by omega)
    have hdC:decide ((60:Int) < (ns:Int))=true:=decide_eq_true (by omega)
    clear h hn hcnt hPn hR hRn hRw hS hSn hSw
    go_enter Tryz.func4,Tryz.ntmps4
    go_wp2_with (first
     | (go_at_call 5;refine (PS.out _).mono ?_;rintro e w' ⟨rfl,hb⟩;obtain ⟨X3,rfl,hl3,hm3⟩:=later _ hb (Nat.le_refl _);clear hb;(try simp only [q9A,q9B,q9D] at hm3 hl3)))
    go_ret
    exact ⟨rfl,q9l⟩
  ·have hdA:decide ((8:Int) < (n:Int))=false:=decide_eq_false (by omega)
   have hdB:decide ((60:Int) < (nr:Int))=true:=decide_eq_true (by omega)
   clear h hn hcnt hPn hR hRn hRw hS hSn hSw
   go_enter Tryz.func4,Tryz.ntmps4
   go_wp2_with (first
    | (go_at_call 5;refine (PS.out _).mono ?_;rintro e w' ⟨rfl,hb⟩;obtain ⟨X3,rfl,hl3,hm3⟩:=later _ hb (Nat.le_refl _);clear hb;(try simp only [q9A,q9B,q9D] at hm3 hl3)))
   go_ret
   exact ⟨rfl,q9l⟩
 ·have hdA:decide ((8:Int) < (n:Int))=true:=decide_eq_true (by omega)
  clear h hn hcnt hPn hR hRn hRw hS hSn hSw
  go_enter Tryz.func4,Tryz.ntmps4
  go_wp2_with (first
   | (go_at_call 5;refine (PS.out _).mono ?_;rintro e w' ⟨rfl,hb⟩;obtain ⟨X3,rfl,hl3,hm3⟩:=later _ hb (Nat.le_refl _);clear hb;(try simp only [q9A,q9B,q9D] at hm3 hl3)))
  go_ret
  exact ⟨rfl,q9l⟩
def WrecPost (L:List Rl) (id x y label:Int) (w:World) (e:Ending) (w':World):Prop:=
 Below w.heap.size w w'∧∃ q qc lo qt bt s C cc D cd bd,e = .returned (.tuple #[.agg #[.pointer (some ⟨q,0,none⟩), .pointer (some ⟨qc,0,none⟩), .pointer (some ⟨qt,0,none⟩)], .bool true])∧Tb w' lo qt bt 0 L∧Pt1 w' s q C cc 1 (.slice D 1 cd)∧w'.ownsRow bd 32 4 (.slice D 1 cd) 1 [.int .i64 id, .int .i64 x, .int .i64 y, .int .i64 label]∧M1 w' s 1 (fun k=>if k=id then some (.agg #[.int .i64 id, .int .i64 x, .int .i64 y, .int .i64 label]) else none)∧(q≠bt∧s≠bt∧(∀ k,gP C k→k≠bt)∧∀ k,gP D k→k≠bt)∧w.heap.size≤bt
set_option maxHeartbeats 16000000 in
theorem world_rec (n c cr rb:Nat) (A:Option Addr) (L:List Rl) (P:Nat→Option Addr × Nat) (id x y label:Int) (w:World) (h:Rls w w.heap.size A L P) (hn:L.length=n) (hn1:n≤1000000) (hcnt:cntB L≤1048576) (hPn:∀ i,i < n→(P i).1=none→(L.getD i rl0).boxes.length=0) (h32:L.length≤32) (hall:L.all rightR=true) (r0:w.cell? ⟨rb,0,none⟩=some (.int .i64 id)) (r1:w.cell? ⟨rb,1,none⟩=some (.int .i64 x)) (r2:w.cell? ⟨rb,2,none⟩=some (.int .i64 y)) (r3:w.cell? ⟨rb,3,none⟩=some (.int .i64 label)) (hid:wf64 id) (hf:fitsB x y=true):
  Calls Tryz.prog 6 #[.slice A n c, .slice (some ⟨rb,0,none⟩) 1 cr, .slice none 0 0] w (WrecPost L id x y label w):=by
 have hrl:rb < w.heap.size:=cell_lt r0
 have PG:=Lib.hid (fun (Y:World) (hY:Below w.heap.size w Y)=>gnew_any n c A L P Y ((h.keep hY).more hY.size) hn hn1 hcnt hPn)
 have PT:=Lib.hid (fun (Y:World)=>ptNew_any Y)
 have PC:=Lib.hid (fun (Y:World)=>cifNew_any Y)
 have PI:=Lib.hid (fun (s q cc:Nat) (C:Option Addr) (Y:World) (hp:Pt1 Y s q C cc 0 (.slice none 0 0)) (hm:M1 Y s 0 (fun _=>none))=>pinsert_first s q cc C id x y label Y hp hm hid hf)
 have HL:=Lib.hid (And.intro h32 hall)
 generalize hW:WrecPost L id x y label w=Post
 clear h hn hn1 hcnt hPn h32 hall hf
 go_enter Tryz.func6,Tryz.ntmps6
 go_wp2_with fail
 go_at_call 18
 refine (PT.out _).mono ?_
 rintro e w' ⟨C,cc,rfl,hpt,hmap,hb⟩
 obtain ⟨X1,rfl,hl1,hm1⟩:=later _ hb (Nat.le_refl _)
 simp only [World.size_alloc] at hpt hmap
 have hM1:=m1_of hmap
 have HP:=Lib.hid (And.intro hpt hM1)
 have hqs:=hpt.lt
 have hfarC:=Lib.hid hpt.far
 clear hpt hmap hb hM1
 have hz1:w.heap.size+1≤X1.w.heap.size:=Nat.le_trans (by simp) hl1
 go_wp2_with fail
 go_at_call 19
 refine (PG.out _ q9l).mono ?_
 rintro e w' ⟨hb,hor⟩
 rcases hor with ⟨h32,hall,qt,bt,rfl,hT⟩|⟨hnot,f,hf,rfl⟩
 ·have hP2:=HP.out.1.keep hb
  have hm2:=HP.out.2.same (hb.block _ HP.out.2.lt)
  have HT:=Lib.hid (And.intro hT (And.intro hP2 hm2))
  have hlob:=hT.lb
  obtain ⟨X2,rfl,hl2,hm2'⟩:=later _ hb (Nat.le_refl _)
  clear h32 hall hT hP2 hm2 hb
  go_wp2_with fail
  go_at_call 20
  refine (PC.out _).mono ?_
  rintro e w' ⟨⟨qc,rfl,hqc⟩,hb⟩
  have HT3:=Lib.hid (show Tb w' X1.w.heap.size qt bt 0 L∧Pt1 w' (w.heap.size+1) (w.heap.size+1+1) C cc 0 (.slice none 0 0)∧M1 w' (w.heap.size+1) 0 (fun _=>none) from ⟨HT.out.1.keep hb,HT.out.2.1.keep hb,HT.out.2.2.same (hb.block _ HT.out.2.2.lt)⟩)
  have hbt3:bt < w'.heap.size:=HT3.out.1.ltb
  obtain ⟨X3,rfl,hl3,hm3⟩:=later _ hb (Nat.le_refl _)
  clear hb HT
  have hw3:Below w.heap.size w X3.w:=q9l
  have hs3:=hw3.size
  have HW3:=Lib.hid hw3
  have z0:X3.w.cell? ⟨rb,0,none⟩=some (.int .i64 id):=(hw3.cell (p:=⟨rb,0,none⟩) hrl).trans r0
  have z1:X3.w.cell? ⟨rb,1,none⟩=some (.int .i64 x):=(hw3.cell (p:=⟨rb,1,none⟩) hrl).trans r1
  have z2:X3.w.cell? ⟨rb,2,none⟩=some (.int .i64 y):=(hw3.cell (p:=⟨rb,2,none⟩) hrl).trans r2
  have z3:X3.w.cell? ⟨rb,3,none⟩=some (.int .i64 label):=(hw3.cell (p:=⟨rb,3,none⟩) hrl).trans r3
  have hCl:∀ k,gP C k→w.heap.size+1+1 < k∧k < X1.w.heap.size:=hfarC.out
  have HCl:=Lib.hid hCl
  have hr0:∀ i,X3.w.cell? ⟨w.heap.size,i,none⟩=(w.alloc (.cells #[.pointer none, .pointer none, .pointer none] 38)).cell? ⟨w.heap.size,i,none⟩:=fun i=>by go_simp
  have y0:X3.w.cell? ⟨w.heap.size,0,none⟩=some (.pointer none):=by go_simp
  have y1:X3.w.cell? ⟨w.heap.size,1,none⟩=some (.pointer none):=by go_simp
  have y2:X3.w.cell? ⟨w.heap.size,2,none⟩=some (.pointer none):=by go_simp
  have u0:X3.w.frozen? ⟨w.heap.size,0,none⟩=false:=by go_simp
  have u1:X3.w.frozen? ⟨w.heap.size,1,none⟩=false:=by go_simp
  have u2:X3.w.frozen? ⟨w.heap.size,2,none⟩=false:=by go_simp
  clear hw3 hCl hr0
  go_wp2_with fail
  go_loopw [13] (fun i wr=>∃ n:Nat,n≤1∧i = .int .i64 n∧Hid ((n=0→wr=X3.w)∧(n=1→∃ D cd,Tb wr X1.w.heap.size qt bt 0 L∧Pt1 wr (w.heap.size+1) (w.heap.size+1+1) C cc 1 (.slice D 1 cd)∧wr.ownsRow X3.w.heap.size 32 4 (.slice D 1 cd) 1 [.int .i64 id, .int .i64 x, .int .i64 y, .int .i64 label]∧M1 wr (w.heap.size+1) 1 (fun k=>if k=id then some (.agg #[.int .i64 id, .int .i64 x, .int .i64 y, .int .i64 label]) else none)∧Chg (fun j=>j=w.heap.size+1∨gP C j) X3.w wr))) (fun i _=>1 - (intOf i).toNat)
  case atStart=>exact ⟨0,by decide,rfl,⟨fun _=>rfl,fun e=>by cases e⟩⟩
  case round=>
   obtain ⟨n,hn,rfl,hrel⟩:=hrel
   match n,hn with
   | 0,_=>
    obtain rfl:=hrel.out.1 rfl
    clear hrel hn
    go_wp2_with fail
    go_at_call 21
    refine (PI.out _ _ cc C _ HT3.out.2.1 HT3.out.2.2).mono ?_
    rintro e w5 ⟨rfl,D,cd,hp5,hr5,hm5,hc5⟩
    have hs5:=hc5.size
    have HE:=Lib.hid (show ∃ D cd,Tb w5 X1.w.heap.size qt bt 0 L∧Pt1 w5 (w.heap.size+1) (w.heap.size+1+1) C cc 1 (.slice D 1 cd)∧w5.ownsRow X3.w.heap.size 32 4 (.slice D 1 cd) 1 [.int .i64 id, .int .i64 x, .int .i64 y, .int .i64 label]∧M1 w5 (w.heap.size+1) 1 (fun k=>if k=id then some (.agg #[.int .i64 id, .int .i64 x, .int .i64 y, .int .i64 label]) else none)∧Chg (fun j=>j=w.heap.size+1∨gP C j) X3.w w5 from ⟨D,cd,HT3.out.1.agree (fun j h1 h2=>hc5.block j h2 (fun e=>e.elim (fun e=>by omega) (fun e=>by have:=HCl.out j e;omega))) hc5.size,hp5,hr5,hm5,hc5⟩)
    clear hp5 hr5 hm5 hc5
    go_wp2_with fail
    go_roundw
    case rel=>exact ⟨1,by decide,by go_num,⟨fun e=>(by cases e),fun _=>HE.out⟩⟩
    case measure=>show 1 - 1 < 1 - 0;decide
   | 1,_=>
    obtain ⟨D,cd,hT5,hp5,hr5,hm5,hc5⟩:=hrel.out.2 rfl
    have hs5:=hc5.size
    have hnr:¬ (w.heap.size=w.heap.size+1∨gP C w.heap.size):=fun e=>e.elim (fun e=>by omega) (fun e=>by have:=HCl.out _ e;omega)
    have q0:wr.cell? ⟨w.heap.size,0,none⟩=some (.pointer none):=(hc5.cell (p:=⟨w.heap.size,0,none⟩) (by show w.heap.size < _;omega) hnr).trans y0
    have q1:wr.cell? ⟨w.heap.size,1,none⟩=some (.pointer none):=(hc5.cell (p:=⟨w.heap.size,1,none⟩) (by show w.heap.size < _;omega) hnr).trans y1
    have q2:wr.cell? ⟨w.heap.size,2,none⟩=some (.pointer none):=(hc5.cell (p:=⟨w.heap.size,2,none⟩) (by show w.heap.size < _;omega) hnr).trans y2
    have p0:wr.frozen? ⟨w.heap.size,0,none⟩=false:=(hc5.frozen (p:=⟨w.heap.size,0,none⟩) (by show w.heap.size < _;omega) hnr).trans u0
    have p1:wr.frozen? ⟨w.heap.size,1,none⟩=false:=(hc5.frozen (p:=⟨w.heap.size,1,none⟩) (by show w.heap.size < _;omega) hnr).trans u1
    have p2:wr.frozen? ⟨w.heap.size,2,none⟩=false:=(hc5.frozen (p:=⟨w.heap.size,2,none⟩) (by show w.heap.size < _;omega) hnr).trans u2
    have HE:=Lib.hid (And.intro hT5 (And.intro hp5 (And.intro hr5 (And.intro hm5 hc5))))
    clear hrel hT5 hp5 hr5 hm5 hc5 hnr y0 y1 y2 u0 u1 u2
    go_wp2_with fail
    go_loopw [14] (fun i w2=>i = .int .i64 0∧w2=wr) (fun _ _=>0)
    case atStart=>exact ⟨rfl,rfl⟩
    case round=>
     obtain ⟨rfl,rfl⟩:=hrel
     have hcV:Chg (fun j=>j=w.heap.size) wr (((wr.setCell ⟨w.heap.size,0,none⟩ (.pointer (some ⟨w.heap.size+1+1,0,none⟩))).setCell ⟨w.heap.size,1,none⟩ (.pointer (some ⟨qc,0,none⟩))).setCell ⟨w.heap.size,2,none⟩ (.pointer (some ⟨qt,0,none⟩))):=(((Chg.refl (X:=fun j=>j=w.heap.size)).set (p:=⟨w.heap.size,0,none⟩) (.inl rfl) _).set (p:=⟨w.heap.size,1,none⟩) (.inl rfl) _).set (p:=⟨w.heap.size,2,none⟩) (.inl rfl) _
     have hrf:=HE.out.2.2.1.lt
     have HV:=Lib.hid (show Post (.returned (.tuple #[.agg #[.pointer (some ⟨w.heap.size+1+1,0,none⟩), .pointer (some ⟨qc,0,none⟩), .pointer (some ⟨qt,0,none⟩)], .bool true])) (((wr.setCell ⟨w.heap.size,0,none⟩ (.pointer (some ⟨w.heap.size+1+1,0,none⟩))).setCell ⟨w.heap.size,1,none⟩ (.pointer (some ⟨qc,0,none⟩))).setCell ⟨w.heap.size,2,none⟩ (.pointer (some ⟨qt,0,none⟩))) by
      rw [← hW]
      refine ⟨HW3.out.trans ((HE.out.2.2.2.2.below (B:=w.heap.size) (fun k hk=>hk.elim (fun e=>by omega) (fun e=>by have:=HCl.out k e;omega)) hs3).trans (hcV.below (B:=w.heap.size) (fun k hk=>by have e':k=w.heap.size:=hk;omega) (by omega))),w.heap.size+1+1,qc,X1.w.heap.size,qt,bt,w.heap.size+1,C,cc,D,cd,X3.w.heap.size,rfl,?_,?_,?_,?_,?_,by omega⟩
      ·exact HE.out.1.agree (fun j h1 h2=>hcV.block j h2 (fun e=>by have e':j=w.heap.size:=e;omega)) hcV.size
      ·exact HE.out.2.1.chg hcV (by show ¬ (w.heap.size+1+1=w.heap.size);omega) (fun k hk e=>by have e':k=w.heap.size:=e;have:=HCl.out k hk;omega)
      ·exact own_chg HE.out.2.2.1 hcV (fun k hk e=>by have e':k=w.heap.size:=e;have:=hrf k hk;omega)
      ·exact HE.out.2.2.2.1.chg hcV (by show ¬ (w.heap.size+1=w.heap.size);omega)
      ·exact ⟨by omega,by omega,fun k hk=>by have:=HCl.out k hk;omega,fun k hk=>by have:=hrf k (by rw [gOf_own];exact hk);omega⟩)
     clear hcV hrf
     go_wp2_with fail
     refine bodyPost_ret (by simp only [results,Tryz.results6];go_simp;all_goals (first|rfl|simp [sel])) rfl HV.out
 ·exact absurd ⟨HL.out.1,HL.out.2⟩ hnot
end Go.Proofs.YthlijfligikciaaGreat
namespace Go.Proofs.YthlijfligikciaaGreat
open Go.RowKit Go.Maps
set_option linter.unusedSimpArgs false
set_option linter.unusedVariables false
set_option maxRecDepth 4000
def r15:Rl:=⟨4,255,0,7,255,[⟨0,0,65535,65535⟩],15⟩
theorem mine15 {l:Nat} (h:l < 8):mineR [r15] 0 0 l=[r15]:=by
 have hb:forR r15 0 0 l=true:=by
  match l,h with
  | 0,_|1,_|2,_|3,_|4,_|5,_|6,_|7,_=>decide
 have hf:List.filter (fun r=>forR r 0 0 l) [r15]=[r15]:=by
  simp only [List.filter,hb]
 exact hf
theorem zoom15 (x y:Int):zoomF [r15] x y=15∨zoomF [r15] x y=0:=by
 unfold zoomF foldZ
 simp only [List.foldl_cons,List.foldl_nil]
 unfold stepZ
 cases hasL r15.boxes x y with
 | true=>left;decide
 | false=>right;decide
theorem lev15:∀ xs,xs.Pairwise (· < ·)→LevL [r15] 0 0 8 xs→xs=[15]:=fun xs hp hl=>by
 have h15:(15:Int) ∈ xs:=(hl 15).2 ⟨by decide,0,by decide,0,0,by
  have:=mine15 (l:=0) (by decide)
  rw [show ((0:Nat):Int)=0 from rfl] at this ⊢
  rw [this]
  decide⟩
 have hall:∀ z ∈ xs,z=15:=fun z hz=>by
  obtain ⟨h0,l,hl8,x,y,he⟩:=(hl z).1 hz
  rw [mine15 hl8] at he
  rcases zoom15 x y with h|h
  ·rw [← he,h]
  ·exact absurd (he.symm.trans h) h0
 match xs,hp,h15,hall with
 | [],_,h,_=>cases h
 | [a],_,_,h=>rw [h a (by simp)]
 | a :: b :: r,hp,_,h=>
  have h1:=h a (by simp)
  have h2:=h b (by simp)
  have:=(List.pairwise_cons.1 hp).1 b (by simp)
  omega
set_option maxHeartbeats 16000000 in
theorem seen_ok:SeenOk:=fun w=>by
 have PW:=Lib.hid (fun (A:Option Addr) (P:Nat→Option Addr × Nat) (rb:Nat) (Y:World) (h:Rls Y Y.heap.size A [r15] P) (hPn:(P 0).1≠none) (r0:Y.cell? ⟨rb,0,none⟩=some (.int .i64 4)) (r1:Y.cell? ⟨rb,1,none⟩=some (.int .i64 7)) (r2:Y.cell? ⟨rb,2,none⟩=some (.int .i64 0)) (r3:Y.cell? ⟨rb,3,none⟩=some (.int .i64 0))=>world_rec 1 1 1 rb A [r15] P 4 7 0 0 Y h rfl (by decide) (by decide) (fun i hi he=>by match i,hi with|0,_=>exact absurd he hPn) (by decide) (by decide) r0 r1 r2 r3 (by unfold wf64;decide) (by decide))
 have PG:=Lib.hid (fun (Y:World)=>wide_any Y)
 unfold wideG at PG
 go_enter Tryz.func5,Tryz.ntmps5
 go_wp2_with fail
 have hR:Rls (((w.alloc (.cells #[.int .i64 0, .int .i64 0, .int .i64 65535, .int .i64 65535] 24)).alloc (.cells #[.int .i64 4, .int .i64 255, .int .i64 0, .int .i64 7, .int .i64 255, .slice (some ⟨w.heap.size,0,none⟩) 1 1, .int .i64 15] 65)).alloc (.cells #[.int .i64 4, .int .i64 7, .int .i64 0, .int .i64 0] 32)) ((((w.alloc (.cells #[.int .i64 0, .int .i64 0, .int .i64 65535, .int .i64 65535] 24)).alloc (.cells #[.int .i64 4, .int .i64 255, .int .i64 0, .int .i64 7, .int .i64 255, .slice (some ⟨w.heap.size,0,none⟩) 1 1, .int .i64 15] 65)).alloc (.cells #[.int .i64 4, .int .i64 7, .int .i64 0, .int .i64 0] 32))).heap.size (some ⟨w.heap.size+1,0,none⟩) [r15] (fun _=>(some ⟨w.heap.size,0,none⟩,1)):=by
  refine ⟨fun _=>⟨w.heap.size+1,0,rfl,by simp,fun i hi=>?_⟩,fun i hi=>?_,fun i hi=>?_⟩
  ·match i,hi with
   | 0,_=>exact ⟨by go_simp;rfl,by go_simp;rfl,by go_simp;rfl,by go_simp;rfl,by go_simp;rfl,by go_simp;rfl,by go_simp;rfl⟩
  ·match i,hi with
   | 0,_=>
    refine fun _=>⟨w.heap.size,0,rfl,by simp;omega,fun i hi j hj=>?_⟩
    match i,hi with
    | 0,_=>
     match j,hj with
     | 0,_=>go_simp;rfl
     | 1,_=>go_simp;rfl
     | 2,_=>go_simp;rfl
     | 3,_=>go_simp;rfl
  ·match i,hi with
   | 0,_=>exact ⟨Nat.le_refl 1,by show (1:Nat)≤9223372036854775807;decide⟩
 refine (PW.out _ _ (w.heap.size+1+1) _ hR (by simp) (by go_simp) (by go_simp) (by go_simp) (by go_simp)).mono ?_
 rintro e w' ⟨hb,q,qc,lo,qt,bt,s,C,cc,D,cd,bd,rfl,hT,hp,hr,hm,hqb,hbt⟩
 have hbw:Below w.heap.size w w':=(((Below.refl w.heap.size w).alloc (Nat.le_refl _) _).alloc (by simp) _ |>.alloc (by simp;omega) _).trans (hb.mono (by simp;omega))
 simp only [World.size_alloc] at hbt
 obtain ⟨X1,rfl⟩:∃ X:Later w.heap.size w,w'=X.w:=⟨⟨w',hbw⟩,rfl⟩
 have hs1:=hbw.size
 have HT:=Lib.hid (And.intro hT (And.intro hp (And.intro hr (And.intro hm hqb))))
 clear hb hR hT hp hr hm hqb hbw
 go_wp2_with fail
 have hbtl:=HT.out.1.ltb
 have HSS:=Lib.hid (show ∀ W',Chg (fun j=>j=bt) (X1.w.alloc (.cells #[.pointer (some ⟨q,0,none⟩), .pointer (some ⟨qc,0,none⟩), .pointer (some ⟨qt,0,none⟩)] 38)) W'→(fun w'=>w'.cell? ⟨X1.w.heap.size,0,none⟩=some (.pointer (some ⟨q,0,none⟩))∧w'.cell? ⟨X1.w.heap.size,1,none⟩=some (.pointer (some ⟨qc,0,none⟩))∧w'.cell? ⟨X1.w.heap.size,2,none⟩=some (.pointer (some ⟨qt,0,none⟩))) W' from fun W' hc=>by
  have hz:(X1.w.alloc (.cells #[.pointer (some ⟨q,0,none⟩), .pointer (some ⟨qc,0,none⟩), .pointer (some ⟨qt,0,none⟩)] 38)).heap.size=X1.w.heap.size+1:=by simp
  exact ⟨(hc.cell (p:=⟨X1.w.heap.size,0,none⟩) (by rw [hz];show X1.w.heap.size < _;omega) (by show ¬ X1.w.heap.size=bt;omega)).trans (by go_simp),(hc.cell (p:=⟨X1.w.heap.size,1,none⟩) (by rw [hz];show X1.w.heap.size < _;omega) (by show ¬ X1.w.heap.size=bt;omega)).trans (by go_simp),(hc.cell (p:=⟨X1.w.heap.size,2,none⟩) (by rw [hz];show X1.w.heap.size < _;omega) (by show ¬ X1.w.heap.size=bt;omega)).trans (by go_simp)⟩)
 have hcd:Chg (fun j=>j=bt) (X1.w.alloc (.cells #[.pointer (some ⟨q,0,none⟩), .pointer (some ⟨qc,0,none⟩), .pointer (some ⟨qt,0,none⟩)] 38)) (X1.w.alloc (.cells #[.pointer (some ⟨q,0,none⟩), .pointer (some ⟨qc,0,none⟩), .pointer (some ⟨qt,0,none⟩)] 38)).drew:=Chg.of (Below.drew (Below.refl _ _))
 have HS:=HSS.out _ hcd
 refine wp_region_early (fun w'=>w'.cell? ⟨X1.w.heap.size,0,none⟩=some (.pointer (some ⟨q,0,none⟩))∧w'.cell? ⟨X1.w.heap.size,1,none⟩=some (.pointer (some ⟨qc,0,none⟩))∧w'.cell? ⟨X1.w.heap.size,2,none⟩=some (.pointer (some ⟨qt,0,none⟩))) (fun _=>true) (by kernel_rfl) HS (fun HS=>?_)
 (refine q9t (i:=0) rfl HS ?_;(try simp only [Act.put,q9x,q9y,q9z]))
 (refine q9t (i:=3) rfl HS ?_;(try simp only [Act.put,q9x,q9y,q9z]))
 refine wpAnyE_one (i:=1) rfl (by kernel_rfl) ?_
 go_wp2_with fail
 go_at_call 17
 refine (PG.out _).mono ?_
 rintro e Xq ⟨rfl,hbg⟩
 have hbq:Below X1.w.heap.size X1.w Xq:=((Below.refl X1.w.heap.size X1.w).alloc (Nat.le_refl _) (.cells #[.pointer (some ⟨q,0,none⟩), .pointer (some ⟨qc,0,none⟩), .pointer (some ⟨qt,0,none⟩)] 38)).trans (((Below.drew (Below.refl (X1.w.alloc (.cells #[.pointer (some ⟨q,0,none⟩), .pointer (some ⟨qc,0,none⟩), .pointer (some ⟨qt,0,none⟩)] 38)).heap.size _)).trans hbg).mono (by simp))
 have hcq:Chg (fun j=>j=bt) (X1.w.alloc (.cells #[.pointer (some ⟨q,0,none⟩), .pointer (some ⟨qc,0,none⟩), .pointer (some ⟨qt,0,none⟩)] 38)) Xq:=hcd.trans (Chg.of (X:=fun j=>j=bt) hbg) (fun j hj => .inl hj)
 have HS:=HSS.out _ hcq
 have HQ:=Lib.hid (And.intro hbq hcq)
 clear hbg hbq hcq hcd
 go_wp2_with fail
 first|refine ⟨fun _=>HS,?_⟩|skip
 (refine q9t (i:=2) rfl HS ?_;(try simp only [Act.put,q9x,q9y,q9z]))
 refine wpAnyE_one (i:=4) rfl (by kernel_rfl) ?_
 have PN:=Lib.hid (near_first lo qt bt 0 [r15] 0 0 4 7 0 0 15 wideG q qc s cc cd bd C D 6 0 15 Xq (HT.out.1.keep HQ.out.1) (by decide) (by decide) (by decide) (by decide) (by decide) (by decide) (by decide) (by decide) (by decide) (by decide) (HT.out.2.1.keep HQ.out.1) (own_keep HT.out.2.2.1 HQ.out.1) (HT.out.2.2.2.1.chg (X:=fun _=>False) (Chg.of HQ.out.1) (fun e=>e)) (by unfold wf64;decide) HT.out.2.2.2.2 lev15 (by decide))
 unfold wideG at PN
 go_wp2_with fail
 refine PN.out.mono ?_
 rintro e w4 ⟨A,ca,x0,y0,x1,y1,⟨hx0,hy0,hx1,hy1⟩,rfl,hown,hc⟩
 obtain rfl:x0=6:=hx0.trans (by decide)
 obtain rfl:y0=0:=hy0.trans (by decide)
 obtain rfl:x1=7:=hx1.trans (by decide)
 obtain rfl:y1=1:=hy1.trans (by decide)
 have HS:=HSS.out _ (HQ.out.2.trans hc (fun j hj => .inl hj))
 have hb4:Below w.heap.size w w4:=X1.is.trans ((HQ.out.1.mono hs1).trans (hc.below (fun j hj=>by have e':j=bt:=hj;omega) (by have:=HQ.out.1.size;omega)))
 have HN:=Lib.hid (And.intro hown hb4)
 clear hx0 hy0 hx1 hy1 hown hc hb4
 go_wp2_with fail
 first|refine ⟨fun _=>HS,?_⟩|skip
 (refine q9t (i:=5) rfl HS ?_;(try simp only [Act.put,q9x,q9y,q9z]))
 (refine q9t (i:=6) rfl HS ?_;(try simp only [Act.put,q9x,q9y,q9z]))
 (refine q9t (i:=7) rfl HS ?_;(try simp only [Act.put,q9x,q9y,q9z]))
 refine wpAnyE_one (i:=8) rfl (by kernel_rfl) ?_
 go_wp2_with fail
 first|refine ⟨fun _=>HS,?_⟩|skip
 refine wpAnyE_one (i:=9) rfl (by kernel_rfl) ?_
 go_wp2_with fail
 first|refine ⟨fun _=>HS,?_⟩|skip
 refine ⟨by kernel_rfl,?_⟩
 go_wp2_with fail
 have hown5:=HN.out.1.alloc (.cells #[.int .i64 4, .int .i64 15, .int .i64 6, .int .i64 0, .int .i64 7, .int .i64 1] 48)
 obtain ⟨g,cap,hv,hlo,hgl⟩:=hown5.form (by omega)
 have hA:A=some ⟨g,0,none⟩:=by injection hv
 subst hA
 have e0:=hown5.cells (g:=g) rfl 0 _ rfl
 have e1:=hown5.cells (g:=g) rfl 1 _ rfl
 have e2:=hown5.cells (g:=g) rfl 2 _ rfl
 have e3:=hown5.cells (g:=g) rfl 3 _ rfl
 have e4:=hown5.cells (g:=g) rfl 4 _ rfl
 have e5:=hown5.cells (g:=g) rfl 5 _ rfl
 rw [Addr.add_lit] at e0 e1 e2 e3 e4 e5
 have n1:Sns (w4.alloc (.cells #[.int .i64 4, .int .i64 15, .int .i64 6, .int .i64 0, .int .i64 7, .int .i64 1] 48)) (w4.alloc (.cells #[.int .i64 4, .int .i64 15, .int .i64 6, .int .i64 0, .int .i64 7, .int .i64 1] 48)).heap.size (some ⟨g,0,none⟩) [⟨4,15,6,0,7,1⟩]:=fun _=>⟨g,0,rfl,hgl,fun i hi=>by
  match i,hi with
  | 0,_=>exact ⟨e0,e1,e2,e3,e4,e5⟩⟩
 have n2:Sns (w4.alloc (.cells #[.int .i64 4, .int .i64 15, .int .i64 6, .int .i64 0, .int .i64 7, .int .i64 1] 48)) (w4.alloc (.cells #[.int .i64 4, .int .i64 15, .int .i64 6, .int .i64 0, .int .i64 7, .int .i64 1] 48)).heap.size (some ⟨w4.heap.size,0,none⟩) [⟨4,15,6,0,7,1⟩]:=fun _=>⟨w4.heap.size,0,rfl,by simp,fun i hi=>by
  match i,hi with
  | 0,_=>exact ⟨by go_simp,by go_simp,by go_simp,by go_simp,by go_simp,by go_simp⟩⟩
 have PS:=same_any 1 1 ca 1 _ _ _ _ _ n1 n2 rfl rfl (by decide)
 rw [decide_eq_true (rfl:([⟨4,15,6,0,7,1⟩]:List Sn)=[⟨4,15,6,0,7,1⟩])] at PS
 have HPS:=Lib.hid PS
 have hb5:Below w.heap.size w (w4.alloc (.cells #[.int .i64 4, .int .i64 15, .int .i64 6, .int .i64 0, .int .i64 7, .int .i64 1] 48)):=HN.out.2.alloc HN.out.2.size _
 have HB5:=Lib.hid hb5
 clear PS n1 n2 e0 e1 e2 e3 e4 e5 hown5 hv hb5
 refine HPS.out.mono ?_
 rintro e w6 ⟨rfl,hb6⟩
 have hb7:=HB5.out.trans (hb6.mono HB5.out.size)
 have H7:=Lib.hid hb7
 clear hb6 hb7
 go_wp2_with fail
 go_ret
 exact ⟨rfl,H7.out⟩
end Go.Proofs.YthlijfligikciaaGreat
