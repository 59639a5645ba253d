/- A part of one proof: CnE. No condition. -/
import Derived.Test.YthlijfligikciaaGreatY42
import Derived.Test.YthlijfligikciaaGreatY31
namespace Go.Proofs.YthlijfligikciaaGreat
open Go.RowKit Go.Maps
set_option linter.unusedSimpArgs false
set_option linter.unusedVariables false
set_option maxRecDepth 2000
structure NrC (T:Nat→(Nat→Prop)→World→Prop) (G1:Nat→Prop) (bt k q sq bm z:Nat) (T0:CT) (R:List Sh) (px py lv:Int) (K:Value) (kp:Sh→Bool) (nm wm:Nat) (w:World) (B:Option Addr) (out:List Sh) (ca n:Nat) (A:Option Addr) (wc:Nat) (Wt:List (Option Addr)) (C:Option Addr) (I:List Jt) (wr:World):Prop where
 sk:SkC T (gU G1 B) bt k q sq bm z T0 R px py lv K n A wc Wt C (I.map Jt.en) wr
 chg:Chg (fun j=>j=bt) w wr
 own:wr.ownsRow w.heap.size 75 6 (.slice B out.length ca) out.length (shF out)
 ap:∀ j,gP B j→¬ QXC bt k sq A C j
 far:∀ j,gP C j→w.heap.size≤j
 farA:∀ j,gP A j→w.heap.size≤j
 ka:∀ j,gP B j→k < j
 its:(out ++ jtsR kp I).Perm (T0.sh.filter kp)
 ok:∀ i ∈ I,JtOk T0 Wt kp i
 cnt:n+2*cnJ I≤nm
 wtt:Wt.length+4*wtJ I≤wm
def NrcR (T:Nat→(Nat→Prop)→World→Prop) (G1:Nat→Prop) (bt k q sq bm z:Nat) (T0:CT) (R:List Sh) (px py lv:Int) (K:Value) (kp:Sh→Bool) (nm wm:Nat) (w:World) (l:Value) (wr:World) (mm:Nat):Prop:=
 ∃ B on ca n' A wc Wt C I out,l = .slice B on ca∧NrC T G1 bt k q sq bm z T0 R px py lv K kp nm wm w B out ca n' A wc Wt C I wr∧out.length=on∧wtJ I=mm
set_option maxHeartbeats 16000000 in
theorem cnearest_any (wb vb zb bt:Nat) (kp:Sh→Bool) (T:Nat→(Nat→Prop)→World→Prop) (EN:Env 52 (fun s:Sh=>#[.agg #[.int .i64 s.id, .int .i64 s.a, .int .i64 s.b, .int .i64 s.c, .int .i64 s.d, .int .i64 s.label], .pointer (some ⟨wb,0,none⟩), .pointer (some ⟨vb,0,none⟩), .pointer (some ⟨zb,0,none⟩)]) bt kp T) (G0:Nat→Prop) (q bm z n m:Nat) (t:CT) (R:List Sh) (px py lv:Int) (w:World)
  (hP:CtI w q bm z t R) (hT:T n G0 w) (hg0:∀ x,G0 x→x < w.heap.size) (hR:R.length≤1000) (hm:R.length < m) (hm9:m≤1000000) (hn:n+2*R.length≤400000) (hlv:0≤lv∧lv≤16) (hpf:fitsB px py=true) (hX:∀ j,(CX bm t j∨j=q)→j≠bt):
  Calls Tryz.prog 53 #[.pointer (some ⟨q,0,none⟩), .agg #[.int .i64 px, .int .i64 py], .int .i64 m, .int .i64 lv,(.func (.func 52) #[] #[.pointer (some ⟨wb,0,none⟩), .pointer (some ⟨vb,0,none⟩), .pointer (some ⟨zb,0,none⟩)])] w fun e w'=>∃ B ca out n',e = .returned (.slice B (out:List Sh).length ca)∧w'.ownsRow w.heap.size 75 6 (.slice B out.length ca) out.length (shF out)∧out.Perm (R.filter kp)∧T n' (gU G0 B) w'∧n'≤n+2*R.length∧Chg (fun j=>j=bt) w w':=by
 obtain ⟨i0,hi,hz0,hz1,hz2⟩:=info_parts (show (Tryz.prog.info? 75).map (fun i=>(i.zero,i.size,i.bytes))=some (some (.agg #[.int .i64 0, .int .i64 0, .int .i64 0, .int .i64 0, .int .i64 0, .int .i64 0]),6,48) by kernel_rfl)
 obtain ⟨b0,hroot⟩:=hP.root
 have q0:=hP.c0
 rw [hroot] at q0
 have PM:=Lib.hid (fun (Y:World) (hY:Below w.heap.size w Y)=>cmade_any q b0 Y ((hY.cell (p:=⟨q,0,none⟩) hP.lt).trans q0))
 have pf:=fun (Y:World)=>fits_any px py Y
 rw [hpf] at pf
 have PF:=Lib.hid pf
 have PQ:=Lib.hid (fun (Y:World)=>qnew_any Y)
 have hd0:decide (lv < 0)=false:=decide_eq_false (by omega)
 have hd1:decide (16 < lv)=false:=decide_eq_false (by omega)
 have hbl:=EN.lt hT
 have hql:=hP.lt
 have hls:=hP.m.lt
 have hrl:=hP.shs.length_eq
 have hwt:=cwt_le t 0 0 0 hP.at_ (by decide)
 have hwt9:t.wt≤18000:=by
  have e:(18 - (0:Int)).toNat=18:=by decide
  rw [e] at hwt
  omega
 rw [← hrl] at hn
 have HRL:=Lib.hid hrl
 have H:=Lib.hid (show CtI w q bm z t R∧T n G0 w∧(∀ x,G0 x→x < w.heap.size)∧(0≤lv∧lv≤16)∧(∀ j,(CX bm t j∨j=q)→j≠bt)∧n+2*t.sh.length≤400000 from ⟨hP,hT,hg0,hlv,hX,hn⟩)
 have hqb:q≠bt:=hX q (.inr rfl)
 have hmb:bm≠bt:=hX bm (.inl (.inl rfl))
 have q1:=hP.c1
 have hsl9:t.sh.length≤1000:=by omega
 clear pf hP hT hg0 hlv hpf hX hwt hn hrl
 go_enter Tryz.func53,Tryz.ntmps53
 go_wp2_with (first
  | (go_at_call 60;refine (PM.out _ q9l).mono ?_;rintro e w' ⟨rfl,hb⟩;obtain ⟨X1,rfl,hl1,hm1⟩:=later _ hb (Nat.le_refl _);clear hb;(try simp only [q9A,q9B,q9D] at hm1 hl1))
  | (go_at_call 10;refine (PF.out _).mono ?_;rintro e w' ⟨rfl,hb⟩;obtain ⟨X2,rfl,hl2,hm2⟩:=later _ hb (Nat.le_refl _);clear hb;(try simp only [q9A,q9B,q9D] at hm2 hl2)))
 have hb2:Below w.heap.size w X2.w:=q9l
 have hs2:w.heap.size+1≤X2.w.heap.size:=by go_size
 have HS:(fun w'=>w'.cell? ⟨w.heap.size,0,none⟩=some (.int .i64 px)∧w'.cell? ⟨w.heap.size,1,none⟩=some (.int .i64 py)) X2.w.drew:=⟨by go_simp,by go_simp⟩
 refine wp_region_early (fun w'=>w'.cell? ⟨w.heap.size,0,none⟩=some (.int .i64 px)∧w'.cell? ⟨w.heap.size,1,none⟩=some (.int .i64 py)) (fun _=>true) (by kernel_rfl) HS (fun HS=>?_)
 (refine q9t (i:=0) rfl HS ?_;(try simp only [Act.put,q9x,q9y,q9z]))
 (refine q9t (i:=1) rfl HS ?_;(try simp only [Act.put,q9x,q9y,q9z]))
 (refine q9t (i:=2) rfl HS ?_;(try simp only [Act.put,q9x,q9y,q9z]))
 (refine q9t (i:=3) rfl HS ?_;(try simp only [Act.put,q9x,q9y,q9z]))
 refine wpAnyE_one (i:=4) rfl (by kernel_rfl) ?_
 go_wp2_with fail
 go_at_call 81
 refine (PQ.out _).mono ?_
 rintro e w3 ⟨rfl,hq3,hb3⟩
 simp only [World.size_drew] at hq3 hb3 ⊢
 have hb3':Below w.heap.size w w3:=hb2.drew.trans (hb3.mono hb2.size)
 have HS3:(fun w'=>w'.cell? ⟨w.heap.size,0,none⟩=some (.int .i64 px)∧w'.cell? ⟨w.heap.size,1,none⟩=some (.int .i64 py)) w3:=⟨(hb3.cell (p:=⟨w.heap.size,0,none⟩) (by show w.heap.size < _;omega)).trans (by go_simp),(hb3.cell (p:=⟨w.heap.size,1,none⟩) (by show w.heap.size < _;omega)).trans (by go_simp)⟩
 have hqs:=hq3.lt
 have HB3:=Lib.hid (And.intro hb3' hq3)
 obtain ⟨sq,hsq⟩:∃ n,X2.w.heap.size=n:=⟨_,rfl⟩
 rw [hsq] at HB3 hs2 hqs ⊢
 have HSQ:=Lib.hid hsq
 clear hsq hb3 hb3' hq3 hb2
 go_wp2_with fail
 first|refine ⟨fun _=>HS3,?_⟩|skip
 refine wpAnyE_one (i:=5) rfl (by kernel_rfl) ?_
 go_wp2_with fail
 first|refine ⟨fun _=>HS3,?_⟩|skip
 refine wpAnyE_one (i:=6) rfl (by kernel_rfl) ?_
 go_wp2_with fail
 have HS4:(fun w'=>w'.cell? ⟨w.heap.size,0,none⟩=some (.int .i64 px)∧w'.cell? ⟨w.heap.size,1,none⟩=some (.int .i64 py)) (w3.alloc (.cells #[.pointer (some ⟨q,0,none⟩), .int .i64 px, .int .i64 py, .int .i64 lv,(.func (.func 52) #[] #[.pointer (some ⟨wb,0,none⟩), .pointer (some ⟨vb,0,none⟩), .pointer (some ⟨zb,0,none⟩)]), .slice none 0 0, .pointer (some ⟨sq,0,none⟩)] 182)):=⟨by go_simp,by go_simp⟩
 refine ⟨fun _=>HS4,?_⟩
 refine wpAnyE_one (i:=7) rfl (by kernel_rfl) ?_
 go_wp2_with fail
 first|refine ⟨fun _=>HS4,?_⟩|skip
 refine ⟨by kernel_rfl,?_⟩
 have hk0:(w3.alloc (.cells #[.pointer (some ⟨q,0,none⟩), .int .i64 px, .int .i64 py, .int .i64 lv,(.func (.func 52) #[] #[.pointer (some ⟨wb,0,none⟩), .pointer (some ⟨vb,0,none⟩), .pointer (some ⟨zb,0,none⟩)]), .slice none 0 0, .pointer (some ⟨sq,0,none⟩)] 182)).cell? ⟨w3.heap.size,0,none⟩=some (.pointer (some ⟨q,0,none⟩)):=by go_simp
 have hk1:(w3.alloc (.cells #[.pointer (some ⟨q,0,none⟩), .int .i64 px, .int .i64 py, .int .i64 lv,(.func (.func 52) #[] #[.pointer (some ⟨wb,0,none⟩), .pointer (some ⟨vb,0,none⟩), .pointer (some ⟨zb,0,none⟩)]), .slice none 0 0, .pointer (some ⟨sq,0,none⟩)] 182)).cell? ⟨w3.heap.size,1,none⟩=some (.int .i64 px):=by go_simp
 have hk2:(w3.alloc (.cells #[.pointer (some ⟨q,0,none⟩), .int .i64 px, .int .i64 py, .int .i64 lv,(.func (.func 52) #[] #[.pointer (some ⟨wb,0,none⟩), .pointer (some ⟨vb,0,none⟩), .pointer (some ⟨zb,0,none⟩)]), .slice none 0 0, .pointer (some ⟨sq,0,none⟩)] 182)).cell? ⟨w3.heap.size,2,none⟩=some (.int .i64 py):=by go_simp
 have hk3:(w3.alloc (.cells #[.pointer (some ⟨q,0,none⟩), .int .i64 px, .int .i64 py, .int .i64 lv,(.func (.func 52) #[] #[.pointer (some ⟨wb,0,none⟩), .pointer (some ⟨vb,0,none⟩), .pointer (some ⟨zb,0,none⟩)]), .slice none 0 0, .pointer (some ⟨sq,0,none⟩)] 182)).cell? ⟨w3.heap.size,3,none⟩=some (.int .i64 lv):=by go_simp
 have hk4:(w3.alloc (.cells #[.pointer (some ⟨q,0,none⟩), .int .i64 px, .int .i64 py, .int .i64 lv,(.func (.func 52) #[] #[.pointer (some ⟨wb,0,none⟩), .pointer (some ⟨vb,0,none⟩), .pointer (some ⟨zb,0,none⟩)]), .slice none 0 0, .pointer (some ⟨sq,0,none⟩)] 182)).cell? ⟨w3.heap.size,4,none⟩=some (.func (.func 52) #[] #[.pointer (some ⟨wb,0,none⟩), .pointer (some ⟨vb,0,none⟩), .pointer (some ⟨zb,0,none⟩)]):=by go_simp
 have hk5:(w3.alloc (.cells #[.pointer (some ⟨q,0,none⟩), .int .i64 px, .int .i64 py, .int .i64 lv,(.func (.func 52) #[] #[.pointer (some ⟨wb,0,none⟩), .pointer (some ⟨vb,0,none⟩), .pointer (some ⟨zb,0,none⟩)]), .slice none 0 0, .pointer (some ⟨sq,0,none⟩)] 182)).cell? ⟨w3.heap.size,5,none⟩=some (.slice none 0 0):=by go_simp
 have hk6:(w3.alloc (.cells #[.pointer (some ⟨q,0,none⟩), .int .i64 px, .int .i64 py, .int .i64 lv,(.func (.func 52) #[] #[.pointer (some ⟨wb,0,none⟩), .pointer (some ⟨vb,0,none⟩), .pointer (some ⟨zb,0,none⟩)]), .slice none 0 0, .pointer (some ⟨sq,0,none⟩)] 182)).cell? ⟨w3.heap.size,6,none⟩=some (.pointer (some ⟨sq,0,none⟩)):=by go_simp
 have hkf:(w3.alloc (.cells #[.pointer (some ⟨q,0,none⟩), .int .i64 px, .int .i64 py, .int .i64 lv,(.func (.func 52) #[] #[.pointer (some ⟨wb,0,none⟩), .pointer (some ⟨vb,0,none⟩), .pointer (some ⟨zb,0,none⟩)]), .slice none 0 0, .pointer (some ⟨sq,0,none⟩)] 182)).frozen? ⟨w3.heap.size,5,none⟩=false:=by go_simp
 have HB4:=Lib.hid (show Below w.heap.size w (w3.alloc (.cells #[.pointer (some ⟨q,0,none⟩), .int .i64 px, .int .i64 py, .int .i64 lv,(.func (.func 52) #[] #[.pointer (some ⟨wb,0,none⟩), .pointer (some ⟨vb,0,none⟩), .pointer (some ⟨zb,0,none⟩)]), .slice none 0 0, .pointer (some ⟨sq,0,none⟩)] 182))∧Sw (w3.alloc (.cells #[.pointer (some ⟨q,0,none⟩), .int .i64 px, .int .i64 py, .int .i64 lv,(.func (.func 52) #[] #[.pointer (some ⟨wb,0,none⟩), .pointer (some ⟨vb,0,none⟩), .pointer (some ⟨zb,0,none⟩)]), .slice none 0 0, .pointer (some ⟨sq,0,none⟩)] 182)) w3.heap.size q sq px py lv (.func (.func 52) #[] #[.pointer (some ⟨wb,0,none⟩), .pointer (some ⟨vb,0,none⟩), .pointer (some ⟨zb,0,none⟩)]) none 0 []∧Qu (w3.alloc (.cells #[.pointer (some ⟨q,0,none⟩), .int .i64 px, .int .i64 py, .int .i64 lv,(.func (.func 52) #[] #[.pointer (some ⟨wb,0,none⟩), .pointer (some ⟨vb,0,none⟩), .pointer (some ⟨zb,0,none⟩)]), .slice none 0 0, .pointer (some ⟨sq,0,none⟩)] 182)) sq none 0 0 [] from ⟨HB3.out.1.alloc HB3.out.1.size _,⟨hk0,hk1,hk2,hk3,hk4,hk5,hk6,hkf,World.ownsRow_nil _ _ _ _⟩,HB3.out.2.alloc _⟩)
 have hs4:w3.heap.size < (w3.alloc (.cells #[.pointer (some ⟨q,0,none⟩), .int .i64 px, .int .i64 py, .int .i64 lv,(.func (.func 52) #[] #[.pointer (some ⟨wb,0,none⟩), .pointer (some ⟨vb,0,none⟩), .pointer (some ⟨zb,0,none⟩)]), .slice none 0 0, .pointer (some ⟨sq,0,none⟩)] 182)).heap.size:=by simp
 obtain ⟨k,hk⟩:∃ n,w3.heap.size=n:=⟨_,rfl⟩
 rw [hk] at HB4 hs4 hqs ⊢
 clear hk0 hk1 hk2 hk3 hk4 hk5 hk6 hkf HS HS3 HS4
 generalize w3.alloc (.cells #[.pointer (some ⟨q,0,none⟩), .int .i64 px, .int .i64 py, .int .i64 lv,(.func (.func 52) #[] #[.pointer (some ⟨wb,0,none⟩), .pointer (some ⟨vb,0,none⟩), .pointer (some ⟨zb,0,none⟩)]), .slice none 0 0, .pointer (some ⟨sq,0,none⟩)] 182)=w4 at HB4 hs4 ⊢
 clear HB3 hk w3
 have hI4:SkC T (fun x=>G0 x∨x=sq∨x=k) bt k q sq bm z t R px py lv (.func (.func 52) #[] #[.pointer (some ⟨wb,0,none⟩), .pointer (some ⟨vb,0,none⟩), .pointer (some ⟨zb,0,none⟩)]) n none 0 [] none [] w4:=by
  have hbt:bt < sq:=by omega
  have h4:=HB4.out.1.size
  refine ⟨HB4.out.2.1,H.out.1.keep (HB4.out.1.mono (Nat.le_refl _)),⟨0,0,[],HB4.out.2.2,rfl,fun k _ hk=>absurd hk (by omega),List.Perm.refl _⟩,EN.step H.out.2.1 (fun j _ hj=>HB4.out.1.block j hj) HB4.out.1.size (fun x hx=>?_),fun j e=>(by cases e),fun j e=>(by cases e),fun x hx=>?_, .inr (.inl rfl), .inr (.inr rfl),hbt,by omega,fun j hj=>⟨?_,H.out.2.2.2.2.1 j hj⟩⟩
  ·rcases hx with (e|e)|e
   ·rcases e with e|e|e
    ·exact .inl e
    ·exact .inr (by omega)
    ·exact .inr (by omega)
   ·cases e
   ·cases e
  ·rcases hx with e|e|e
   ·exact Nat.lt_of_lt_of_le (H.out.2.2.1 x e) h4
   ·omega
   ·omega
  ·rcases hj with hj|rfl
   ·have:=(H.out.1.far j hj).1;omega
   ·omega
 have pn:=node_skc EN t hI4 hI4.g.inn (fun _ h=>h) (by simp) (by simp)
 rw [hroot] at pn
 have PN:=Lib.hid pn
 have H4:=Lib.hid hI4
 have q04:w4.cell? ⟨q,0,none⟩=some (.pointer (some ⟨b0,0,none⟩)):=(HB4.out.1.cell (p:=⟨q,0,none⟩) hql).trans q0
 have HRT:=Lib.hid hroot
 clear pn hI4 hroot
 go_wp2_with fail
 go_at_call 98
 refine PN.out.mono ?_
 rintro e w5 ⟨rfl,C5,A5,wc5,Ws5,d5,hI5,hW5,hWl5,hc5,hC5,hA5⟩
 have hs5:=hc5.size
 have hb4s:=HB4.out.1.size
 have k6:w5.cell? ⟨k,6,none⟩=some (.pointer (some ⟨sq,0,none⟩)):=hI5.sk.c6
 have hI5k:=hI5.sk.lt
 have hI5w:w.heap.size≤w5.heap.size:=by omega
 have H5:=Lib.hid (show ∃ I,NrC T (fun x=>G0 x∨x=sq∨x=k) bt k q sq bm z t R px py lv (.func (.func 52) #[] #[.pointer (some ⟨wb,0,none⟩), .pointer (some ⟨vb,0,none⟩), .pointer (some ⟨zb,0,none⟩)]) kp (n+2*t.sh.length) (1+4*t.wt) w none [] 0 n A5 wc5 ([] ++ Ws5) C5 I w5 by
  have hcw:Chg (fun j=>j=bt) w w5:=(Chg.of (X:=fun j=>j=bt) HB4.out.1).trans hc5 (fun j hj=>by
   rcases hj with e|e|e|e|e
   ·exact .inl e
   ·exact .inr (by omega)
   ·exact .inr (by omega)
   ·cases e
   ·cases e)
  have hfar5:∀ j,gP C5 j→w.heap.size≤j:=fun j hj=>(hC5 j hj).elim (fun e=>by cases e) (fun e=>by omega)
  have hfarA:∀ j,gP A5 j→w.heap.size≤j:=fun j hj=>(hA5 j hj).elim (fun e=>by cases e) (fun e=>by omega)
  have hsk:∀ {M:List En},SkC T (fun x=>G0 x∨x=sq∨x=k) bt k q sq bm z t R px py lv (.func (.func 52) #[] #[.pointer (some ⟨wb,0,none⟩), .pointer (some ⟨vb,0,none⟩), .pointer (some ⟨zb,0,none⟩)]) n A5 wc5 ([] ++ Ws5) C5 M w5→SkC T (gU (fun x=>G0 x∨x=sq∨x=k) none) bt k q sq bm z t R px py lv (.func (.func 52) #[] #[.pointer (some ⟨wb,0,none⟩), .pointer (some ⟨vb,0,none⟩), .pointer (some ⟨zb,0,none⟩)]) n A5 wc5 ([] ++ Ws5) C5 M w5:=fun h=>h.grow EN (Below.refl _ _) (fun x hx=>hx.elim .inl (fun e=>by cases e)) (fun x hx=>hx.elim (h.g0 x) (fun e=>by cases e)) (.inl h.gs) (.inl h.gk)
  by_cases h0:t.sh.length=0
  ·rw [if_pos h0] at hI5
   refine ⟨[],hsk hI5,hcw,World.ownsRow_nil _ _ _ _,fun j e=>(by cases e),hfar5,hfarA,fun j e=>(by cases e),?_,fun i hi=>(by cases hi),(by rw [cnJ_nil];omega),(by rw [wtJ_nil,List.nil_append];omega)⟩
   rw [List.length_eq_zero_iff.1 h0]
   exact List.Perm.refl _
  ·rw [if_neg h0] at hI5
   refine ⟨[.nd d5 0 t],hsk hI5,hcw,World.ownsRow_nil _ _ _ _,fun j e=>(by cases e),hfar5,hfarA,fun j e=>(by cases e),?_,fun i hi=>?_,?_,?_⟩
   ·rw [jts_cons,jts_nil,List.append_nil,List.nil_append]
    exact List.Perm.refl _
   ·rw [List.mem_singleton.1 hi,hW5 h0]
    exact ⟨by rw [HRT.out];rfl,h0,sub_self t⟩
   ·rw [cnJ_cons,cnJ_nil];show n+2*(t.sh.length+0)≤_;omega
   ·rw [wtJ_cons,wtJ_nil,List.nil_append];show Ws5.length+4*(t.wt+0)≤_;omega)
 clear hI5 hc5 hC5 hA5 hW5 hWl5 PN q04
 go_wp2_with fail
 have HM:=Lib.hid (show ∀ (W:World),Chg (fun j=>j=bt) w W→M1 W bm z (shS R) from fun W hW=>H.out.1.m.chg hW hmb)
 go_loopw [12] (fun l wr=>∃ (B:Option Addr) (on ca:Nat),l = .slice B on ca∧on≤1000∧(k < wr.heap.size∧w.heap.size≤wr.heap.size)∧wr.cell? ⟨k,6,none⟩=some (.pointer (some ⟨sq,0,none⟩))∧Hid (∃ mm,NrcR T (fun x=>G0 x∨x=sq∨x=k) bt k q sq bm z t R px py lv (.func (.func 52) #[] #[.pointer (some ⟨wb,0,none⟩), .pointer (some ⟨vb,0,none⟩), .pointer (some ⟨zb,0,none⟩)]) kp (n+2*t.sh.length) (1+4*t.wt) w l wr mm))
  (fun l wr=>leastM (NrcR T (fun x=>G0 x∨x=sq∨x=k) bt k q sq bm z t R px py lv (.func (.func 52) #[] #[.pointer (some ⟨wb,0,none⟩), .pointer (some ⟨vb,0,none⟩), .pointer (some ⟨zb,0,none⟩)]) kp (n+2*t.sh.length) (1+4*t.wt) w l wr))
 case atStart=>
  obtain ⟨I,hN⟩:=H5.out
  exact ⟨none,0,0,rfl,by omega,⟨hI5k,hI5w⟩,k6,⟨_,none,0,0,n,A5,wc5,[] ++ Ws5,C5,I,[],rfl,hN,rfl,rfl⟩⟩
 case round=>
  obtain ⟨B,on,ca,rfl,hon,⟨hkl,hwl⟩,k6,hrel⟩:=hrel
  obtain ⟨B',on',ca',n',A,wc,Wt,C,I,out,hl,hN,hlen,hmm⟩:=leastM_spec hrel.out
  injection hl with e1 e2 e3
  subst e1 e2 e3
  have hol:out.length < t.sh.length+1:=by
   have h9:=hN.its.length_eq
   have h8:=List.length_filter_le kp t.sh
   rw [List.length_append] at h9
   omega
  have hrl:=HRL.out
  have hdl:decide (on < m)=true:=decide_eq_true (by omega)
  have hwI:wtJ I≤18000:=by have:=hN.wtt;omega
  have hWl:Wt.length≤80000:=by have:=hN.wtt;omega
  have hIl:=wtJ_len I hN.ok
  cases I with
  | nil=>
   have HN:=Lib.hid hN
   have HL:=Lib.hid (And.intro hlen hmm)
   clear hrel hN hlen hmm hIl hwI hol
   go_wp2_with fail
   refine (qpop_nil sq C wr HN.out.sk.qh).mono ?_
   rintro e w6 ⟨rfl,hb6⟩
   have HE:=Lib.hid (show ∃ out:List Sh,out.length=on∧w6.ownsRow w.heap.size 75 6 (.slice B out.length ca) out.length (shF out)∧out.Perm (R.filter kp)∧T n' (gU G0 B) w6∧n'≤n+2*R.length∧Chg (fun j=>j=bt) w w6 by
    have hp:=HN.out.its
    rw [jts_nil,List.append_nil] at hp
    exact ⟨out,HL.out.1,own_keep HN.out.own hb6,hp.trans (H.out.1.shs.filter _),EN.step HN.out.sk.t (fun j _ hj=>hb6.block j hj) hb6.size (fun x hx => .inl (hx.elim (fun e => .inl (.inl (.inl (.inl e)))) (fun e => .inl (.inl (.inr e))))),by have:=HN.out.cnt;omega,HN.out.chg.trans (Chg.of (X:=fun _=>False) hb6) (fun _ e=>e.elim)⟩)
   obtain ⟨X6,rfl,hl6,hm6⟩:=later _ hb6 (Nat.le_refl _)
   clear hb6
   go_wp2_with fail
   (try rw [Exit.noGoto_ret])
   go_ret
   obtain ⟨out',ho,hown,hp,hT,hn',hc⟩:=HE.out
   subst ho
   have hbZ:Below X6.w.heap.size X6.w (X6.w.alloc (.cells #[.int .u64 0, .int .u64 0, .int .i64 0] 165)):=(Below.refl _ _).alloc (Nat.le_refl _) _
   exact ⟨B,ca,out',n',rfl,own_keep hown hbZ,hp,EN.below hT hbZ,hn',hc.trans (Chg.of (X:=fun _=>False) hbZ) (fun _ e=>e.elim)⟩
  | cons j0 J0=>
   have HN:=Lib.hid hN
   have HL:=Lib.hid (And.intro hlen hmm)
   clear hrel hN hlen hmm
   have hlm:((j0 :: J0).map Jt.en).length≤500000:=by rw [List.length_map];omega
   go_wp2_with fail
   refine (qpop_any sq C ((j0 :: J0).map Jt.en) wr HN.out.sk.qh hlm (by simp)).mono ?_
   rintro e w6 ⟨en,M',rfl,hperm,_,hq6,hc6⟩
   obtain ⟨i,I',hpI,hen,hpM⟩:=jts_pop (List.Perm.refl _) hperm
   subst hen
   have hs6:=hc6.size
   have hS6:=HN.out.sk.pushed EN hc6 (hq6.perm hpM) (fun j hj => .inl hj)
   have hcw6:Chg (fun j=>j=bt) w w6:=HN.out.chg.trans hc6 (fun j hj => .inr (hj.elim (fun e=>by omega) (fun e=>HN.out.far j e)))
   have hown6:w6.ownsRow w.heap.size 75 6 (.slice B out.length ca) out.length (shF out):=own_chg HN.out.own hc6 (fun j hj e=>HN.out.ap j (by rw [gOf_own] at hj;exact hj) (e.elim (fun e => .inr (.inr (.inl e))) (fun e => .inr (.inr (.inr (.inr e))))))
   have hwt:wtJ (j0 :: J0)=i.wt+wtJ I':=by rw [wtJ_perm hpI,wtJ_cons]
   have hcn:cnJ (j0 :: J0)=i.cn+cnJ I':=by rw [cnJ_perm hpI,cnJ_cons]
   have hok:=jok_perm HN.out.ok hpI
   have hB6:∀ j,gP B j→j < wr.heap.size:=fun j hj=>(HN.out.own.lt j (by rw [gOf_own];exact hj)).2
   have H6:=Lib.hid (And.intro hS6 (And.intro hcw6 (And.intro hown6 (And.intro hwt (And.intro hpI (And.intro hB6 hcn))))))
   have HO:=Lib.hid hok
   have hI'l:I'.length≤wtJ I':=wtJ_len I' (fun i hi=>hok i (List.mem_cons_of_mem _ hi))
   clear hperm hpM hq6 hc6 hcw6 hown6 hlm hpI hok hB6
   cases i with
   | nd dd i t'=>
    have hwt':wtJ (j0 :: J0)=t'.wt+wtJ I':=hwt
    have hcn':cnJ (j0 :: J0)=t'.sh.length+cnJ I':=hcn
    obtain ⟨hWi,hne,hsub⟩:JtOk t Wt kp (.nd dd i t'):=HO.out _ (List.mem_cons_self ..)
    simp only [Jt.en]
    have hcnt:=HN.out.cnt
    have hn9:=H.out.2.2.2.2.2
    have PO:=Lib.hid (fun (Y:World) (hY:Below w6.heap.size w6 Y)=>copen_any wb vb zb bt kp T EN (gU (fun x=>G0 x∨x=sq∨x=k) B) k q sq bm z wc n' t R A C Wt px py lv (I'.map Jt.en) t' Y (hS6.keep EN hY) hsub hne (by omega) (by rw [List.length_map];omega) (by omega))
    have hil:i < Wt.length:=(List.getElem?_eq_some_iff.1 hWi).1
    have hown:=hS6.sk.own
    obtain ⟨g,cap2,hv,hlo,hgl⟩:=hown.form (by omega)
    have hpb:A=some ⟨g,0,none⟩:=by injection hv
    have g0:w6.cell? ⟨g,i,none⟩=some (.pointer t'.ptr):=by
     have h9:=hown.cells (g:=g) (by rw [hpb];rfl) i _ (show (Wt.map Value.pointer)[i]? = some (.pointer t'.ptr) by rw [List.getElem?_map,hWi];rfl)
     rw [Addr.add_lit,Nat.zero_add] at h9
     exact h9
    have k5:=hS6.sk.c5
    rw [hpb] at k5
    obtain ⟨ta,hta⟩:∃ z,t'.ptr=z:=⟨_,rfl⟩
    rw [hta] at PO g0
    obtain ⟨wn,hwn⟩:∃ z,Wt.length=z:=⟨_,rfl⟩
    rw [hwn] at k5 hil
    have HWN:=Lib.hid hwn
    have hkl6:k < w6.heap.size:=by omega
    clear hS6 hsub hwt hcn hta k6 hv hpb hown hWi hwn
    go_wp2_with fail
    (refine wp_region_later_tail 9 (w6.heap.size+1) (by kernel_rfl) (by kernel_rfl) (by go_size) ?_;simp only [List.take_succ_cons,List.take_zero,List.drop_succ_cons,List.drop_zero];(repeat (go_big_quiet_step (fail)));refine wpQuiet_nil ?_;intro Xq hlXq hmXq)
    have hbq:Below w6.heap.size w6 Xq.w:=q9l
    go_wp2_with fail
    go_at_call 99
    refine (PO.out _ hbq).mono ?_
    rintro e w8 ⟨rfl,C8,A8,wc8,Ws,J,n8,hS8,hc8,hC8,hA8,hpJ,hokJ,hwJ,hn8,hWs⟩
    have hs7:=hbq.size
    have hs8:=hc8.size
    have k68:w8.cell? ⟨k,6,none⟩=some (.pointer (some ⟨sq,0,none⟩)):=hS8.sk.c6
    have HE:=Lib.hid (show NrcR T (fun x=>G0 x∨x=sq∨x=k) bt k q sq bm z t R px py lv (.func (.func 52) #[] #[.pointer (some ⟨wb,0,none⟩), .pointer (some ⟨vb,0,none⟩), .pointer (some ⟨zb,0,none⟩)]) kp (n+2*t.sh.length) (1+4*t.wt) w (.slice B on ca) w8 (wtJ (J ++ I')) by
     have hX6:∀ j,QXC bt k sq A C j→j=bt∨w.heap.size≤j:=fun j hj=>by
      rcases hj with e|e|e|e|e
      ·exact .inl e
      ·exact .inr (by omega)
      ·exact .inr (by omega)
      ·exact .inr (HN.out.farA j e)
      ·exact .inr (HN.out.far j e)
     have hap8:∀ j,gP B j→¬ QXC bt k sq A8 C8 j:=fun j hj e=>by
      rcases QXC_trans (w:=Xq.w) (bt:=bt) (k:=k) (sq:=sq) hA8 hC8 j e with e|e
      ·exact HN.out.ap j hj e
      ·have:=H6.out.2.2.2.2.2.1 j hj;omega
     refine ⟨B,on,ca,n8,A8,wc8,Wt ++ Ws,C8,J ++ I',out,rfl,⟨?_,?_,?_,hap8,?_,?_,HN.out.ka,?_,?_,?_,?_⟩,HL.out.1,rfl⟩
     ·rw [List.map_append];exact hS8
     ·exact (H6.out.2.1.trans (Chg.of (X:=fun _=>False) hbq) (fun _ e=>e.elim)).trans hc8 (fun j hj=>hX6 j hj)
     ·exact own_chg (own_keep H6.out.2.2.1 hbq) hc8 (fun j hj=>HN.out.ap j (by rw [gOf_own] at hj;exact hj))
     ·exact fun j hj=>(hC8 j hj).elim (HN.out.far j) (fun e=>by omega)
     ·exact fun j hj=>(hA8 j hj).elim (HN.out.farA j) (fun e=>by omega)
     ·exact jts_open HN.out.its H6.out.2.2.2.2.1 hpJ
     ·exact fun i hi=>(List.mem_append.1 hi).elim (hokJ i) (fun e=>jok_more (I:=I') (fun i hi=>HO.out i (List.mem_cons_of_mem _ hi)) Ws i e)
     ·rw [cnJ_app];omega
     ·have h9:=HN.out.wtt
      rw [wtJ_app,List.length_append];omega)
    have hdec:wtJ (J ++ I') < wtJ (j0 :: J0):=by rw [wtJ_app];omega
    clear hS8 hc8 hC8 hA8 hpJ hokJ hwJ hn8 hbq
    go_wp2_with fail
    go_roundw
    case rel=>exact ⟨B,on,ca,rfl,hon,⟨by omega,by omega⟩,k68,⟨_,HE.out⟩⟩
    case measure=>exact Nat.lt_of_le_of_lt (leastM_le HE.out) (by rw [← HL.out.2];exact hdec)
   | rc dd s=>
    have hr:=HO.out _ (List.mem_cons_self ..)
    have hwt':wtJ (j0 :: J0)=1+wtJ I':=hwt
    have hcn':cnJ (j0 :: J0)=0+cnJ I':=hcn
    simp only [Jt.en]
    have hm6:=HM.out w6 H6.out.2.1
    have q16:w6.cell? ⟨q,1,none⟩=some (.map (some bm)):=(H6.out.2.1.cell (p:=⟨q,1,none⟩) hql hqb).trans q1
    have hsR:s ∈ R:=H.out.1.shs.mem_iff.1 hr.1
    have hlk:=fun (W:World) (hW:W.heap[bm]? = w6.heap[bm]?)=>(hm6.same hW).look (mt:=123) Tryz.underlying123 (zero_sh W) (H.out.1.wf s hsR)
    rw [shS_at H.out.1.ids hsR] at hlk
    simp only [Option.getD_some,shV] at hlk
    obtain ⟨om,hom⟩:∃ o,w6.heap[bm]? = o:=⟨_,rfl⟩
    rw [hom] at hlk
    have hsl6:bm < w6.heap.size:=by omega
    have hql6:q < w6.heap.size:=by omega
    have hown6:=H6.out.2.2.1
    rw [HL.out.1] at hown6
    have HW6:=Lib.hid hown6
    have HB6:=Lib.hid H6.out.2.2.2.2.2.1
    clear hwt hcn hm6 k6 hown6 hr hsR hS6
    go_wp2_with fail
    have hbE:Below w6.heap.size w6 (w6.alloc (.cells #[.int .u64 dd, .int .u64 1, .int .i64 s.id] 165)).drew:=((Below.refl w6.heap.size w6).alloc (Nat.le_refl _) _).drew
    have HS:(fun w'=>w'.heap[bm]? = om∧w'.cell? ⟨q,1,none⟩=some (.map (some bm))∧w'.cell? ⟨w6.heap.size,2,none⟩=some (.int .i64 s.id)) (w6.alloc (.cells #[.int .u64 dd, .int .u64 1, .int .i64 s.id] 165)).drew:=⟨(hbE.block _ hsl6).trans hom,by go_simp,by go_simp⟩
    refine wp_region_early (fun w'=>w'.heap[bm]? = om∧w'.cell? ⟨q,1,none⟩=some (.map (some bm))∧w'.cell? ⟨w6.heap.size,2,none⟩=some (.int .i64 s.id)) (fun j=>decide (j < 10)) (by kernel_rfl) HS (fun HS=>?_)
    (refine q9t (i:=0) rfl HS ?_;(try simp only [Act.put,q9x,q9y,q9z]))
    (refine q9t (i:=1) rfl HS ?_;(try simp only [Act.put,q9x,q9y,q9z]))
    (refine q9t (i:=2) rfl HS ?_;(try simp only [Act.put,q9x,q9y,q9z]))
    (refine q9t (i:=3) rfl HS ?_;(try simp only [Act.put,q9x,q9y,q9z]))
    (refine q9t (i:=4) rfl HS ?_;(try simp only [Act.put,q9x,q9y,q9z]))
    (refine q9t (i:=5) rfl HS ?_;(try simp only [Act.put,q9x,q9y,q9z]))
    (refine q9t (i:=6) rfl HS ?_;(try simp only [Act.put,q9x,q9y,q9z]))
    (refine q9t (i:=7) rfl HS ?_;(try simp only [Act.put,q9x,q9y,q9z]))
    refine wpAnyE_one (i:=8) rfl (by kernel_rfl) ?_
    go_wp2_with fail
    have hbF:Below w6.heap.size w6 ((w6.alloc (.cells #[.int .u64 dd, .int .u64 1, .int .i64 s.id] 165)).drew.alloc (.cells #[.int .i64 s.id, .int .i64 s.a, .int .i64 s.b, .int .i64 s.c, .int .i64 s.d, .int .i64 s.label] 75)):=hbE.alloc (by simp) _
    have HS8:(fun w'=>w'.heap[bm]? = om∧w'.cell? ⟨q,1,none⟩=some (.map (some bm))∧w'.cell? ⟨w6.heap.size,2,none⟩=some (.int .i64 s.id)) ((w6.alloc (.cells #[.int .u64 dd, .int .u64 1, .int .i64 s.id] 165)).drew.alloc (.cells #[.int .i64 s.id, .int .i64 s.a, .int .i64 s.b, .int .i64 s.c, .int .i64 s.d, .int .i64 s.label] 75)):=⟨(hbF.block _ hsl6).trans hom,by go_simp,by go_simp⟩
    first|refine ⟨fun _=>HS8,?_⟩|refine ⟨HS8.1,?_⟩|skip
    refine wpAnyE_one (i:=9) rfl (by kernel_rfl) ?_
    refine wpList_append_own_at _ rfl _ _ 54 rfl w.heap.size 75 i0 (.agg #[.int .i64 0, .int .i64 0, .int .i64 0, .int .i64 0, .int .i64 0, .int .i64 0]) 6 48 Tryz.underlying54 hi hz0 hz1 hz2 rfl (by decide) (.slice B on ca) on _ (by rfl) (own_keep HW6.out hbF) ⟨w6.heap.size+1,0,none⟩ 1 1 [.int .i64 s.id, .int .i64 s.a, .int .i64 s.b, .int .i64 s.c, .int .i64 s.d, .int .i64 s.label] (by rfl) (by rfl) (by
     have h9:=cells_six_new (w6.alloc (.cells #[.int .u64 dd, .int .u64 1, .int .i64 s.id] 165)).drew (.int .i64 s.id) (.int .i64 s.a) (.int .i64 s.b) (.int .i64 s.c) (.int .i64 s.d) (.int .i64 s.label) 75
     have e9:(w6.alloc (.cells #[.int .u64 dd, .int .u64 1, .int .i64 s.id] 165)).drew.heap.size=w6.heap.size+1:=by simp
     rw [e9] at h9
     exact h9) (by intro u hu;simp at hu;rcases hu with rfl|rfl|rfl|rfl|rfl|rfl <;> rfl) (by unfold maxLen;omega) (by omega) (by simp;omega) ?_
    intro v3 w9 hown3 hgrow3 _ hat3
    obtain ⟨B3,k3,rfl⟩:=own_formN hown3
    have hc9:Chg (gP B) w6 w9:=(Chg.of (X:=gP B) hbF).trans (Chg.ofGrown (X:=gP B) hgrow3 (fun k hk=>by rw [gOf_own] at hk;exact hk)) (fun k hk => .inl hk)
    have hs9:=hc9.size
    have hA9:∀ j,gP B3 j→gP B j∨w6.heap.size≤j:=fun j hj=>by
     rw [gOf_own,gOf_own] at hat3
     rcases hat3 with e|e
     ·exact .inl (e.symm.trans hj)
     ·refine .inr ?_
      unfold gP at hj
      rw [e] at hj
      injection hj with hj
      simp at hj
      omega
    have hAn:∀ j,gP B j→w.heap.size≤j:=fun j hj=>(HN.out.own.lt j (by rw [gOf_own];exact hj)).1
    have q9:w9.cell? ⟨w6.heap.size,2,none⟩=((w6.alloc (.cells #[.int .u64 dd, .int .u64 1, .int .i64 s.id] 165)).drew.alloc (.cells #[.int .i64 s.id, .int .i64 s.a, .int .i64 s.b, .int .i64 s.c, .int .i64 s.d, .int .i64 s.label] 75)).cell? ⟨w6.heap.size,2,none⟩:=hgrow3.cell_far ⟨w6.heap.size,2,none⟩ (by simp;omega) (fun e=>by rw [gOf_own] at e;have:=HB6.out w6.heap.size e.symm;omega)
    have HS9:(fun w'=>w'.heap[bm]? = om∧w'.cell? ⟨q,1,none⟩=some (.map (some bm))∧w'.cell? ⟨w6.heap.size,2,none⟩=some (.int .i64 s.id)) w9:=⟨(hc9.block bm hsl6 (fun e=>by have:=hAn bm e;omega)).trans hom,(hc9.cell (p:=⟨q,1,none⟩) hql6 (fun e=>by have h9:=hAn q e;omega)).trans q16,q9.trans (by go_simp)⟩
    first|refine ⟨fun _=>HS9,?_⟩|skip
    have hkB:¬ gP B k:=fun e=>by have:=HN.out.ka k e;omega
    have k69:w9.cell? ⟨k,6,none⟩=some (.pointer (some ⟨sq,0,none⟩)):=(hc9.cell (p:=⟨k,6,none⟩) (by show k < _;omega) hkB).trans H6.out.1.sk.c6
    have hpo:((out ++ [s]) ++ jtsR kp I').Perm (t.sh.filter kp):=jts_out HN.out.its H6.out.2.2.2.2.1
    have HE:=Lib.hid (show NrcR T (fun x=>G0 x∨x=sq∨x=k) bt k q sq bm z t R px py lv (.func (.func 52) #[] #[.pointer (some ⟨wb,0,none⟩), .pointer (some ⟨vb,0,none⟩), .pointer (some ⟨zb,0,none⟩)]) kp (n+2*t.sh.length) (1+4*t.wt) w (.slice B3 (on+1) k3) w9 (wtJ I') by
     have hS:=H6.out.1
     have hkl9:k < w6.heap.size:=hS.sk.lt
     have hQB:∀ j,gP B j→¬ QXC bt k sq A C j:=HN.out.ap
     have hbs:=hS.bs
     have hsl:=hS.sl
     have hsA:=hS.sk.far
     refine ⟨B3,on+1,k3,n',A,wc,Wt,C,I',out ++ [s],rfl,⟨⟨hS.sk.chg hc9 hkB (fun j hj e=>hQB j e (.inr (.inr (.inr (.inl hj))))),hS.g.chg hc9 (fun e=>by have h1:=(hS.far q (.inr rfl)).1;have h2:=HN.out.ka q e;omega) (fun j hj e=>by have h1:=(hS.far j (.inl hj)).1;have h2:=HN.out.ka j e;omega),hS.qh.chg hc9 (fun e=>hQB _ e (.inr (.inr (.inl rfl)))) (fun j hj e=>hQB j e (.inr (.inr (.inr (.inr hj))))),EN.step hS.t (fun j hj hjs=>hc9.block j hjs (fun e=>hj (.inl (.inl (.inr e))))) hs9 (fun x hx=>?_),hS.kC,hS.ac,fun x hx=>?_, .inl (.inr (.inl rfl)), .inl (.inr (.inr rfl)),hbs,hsl,hS.far⟩,?_,?_,?_,HN.out.far,HN.out.farA,?_,hpo,fun i hi=>HO.out i (List.mem_cons_of_mem _ hi),?_,?_⟩,?_,rfl⟩
     ·rcases hx with ((e|e)|e)|e
      ·exact .inl (.inl (.inl (.inl e)))
      ·exact (hA9 x e).elim (fun e => .inl (.inl (.inl (.inr e)))) .inr
      ·exact .inl (.inl (.inr e))
      ·exact .inl (.inr e)
     ·rcases hx with e|e
      ·have:=hS.g0 x (.inl e);omega
      ·exact (hown3.lt x (by rw [gOf_own];exact e)).2
     ·exact H6.out.2.1.trans hc9 (fun j hj => .inr (hAn j hj))
     ·rw [List.length_append,HL.out.1,List.length_singleton,shF_app]
      exact hown3
     ·intro j hj e
      rcases hA9 j hj with h1|h1
      ·exact hQB j h1 e
      ·rcases e with e|e|e|e|e
       ·omega
       ·omega
       ·omega
       ·have:=hsA j e;omega
       ·have:=hS.qh.far j e;omega
     ·intro j hj
      rcases hA9 j hj with h1|h1
      ·exact HN.out.ka j h1
      ·omega
     ·have:=HN.out.cnt;omega
     ·have:=HN.out.wtt;omega
     ·rw [List.length_append,HL.out.1,List.length_singleton])
    have hdec:wtJ I' < wtJ (j0 :: J0):=by omega
    have hon1:on+1≤1000:=by
     have h9:=hpo.length_eq
     have h8:=List.length_filter_le kp t.sh
     rw [List.length_append,List.length_append,HL.out.1,List.length_singleton] at h9
     omega
    clear hown3 hgrow3 q9 HS HS8 HS9 hat3 hbF hbE hom hlk hc9 hA9 hAn hpo
    refine wpAnyE_rest (k:=10) rfl (by kernel_rfl) (fun j hj=>by simp;omega) ?_
    simp only [List.drop_succ_cons,List.drop_zero]
    go_wp2_with fail
    go_roundw
    case rel=>exact ⟨B3,on+1,k3,rfl,hon1,⟨by omega,by omega⟩,k69,⟨_,HE.out⟩⟩
    case measure=>exact Nat.lt_of_le_of_lt (leastM_le HE.out) (by rw [← HL.out.2];exact hdec)
end Go.Proofs.YthlijfligikciaaGreat
