/- A part of one proof: CnB CnC. No condition. -/
import Derived.Test.YthlijfligikciaaGreatY40
import Derived.Test.YthlijfligikciaaGreatY27
import Derived.Test.YthlijfligikciaaGreatY23
import Derived.Test.YthlijfligikciaaGreatY28
namespace Go.Proofs.YthlijfligikciaaGreat
open Go.RowKit Go.Maps
set_option linter.unusedSimpArgs false
set_option linter.unusedVariables false
set_option maxRecDepth 2000
def CndPost (k q sq wc:Nat) (px py lv:Int) (K:Value) (A:Option Addr) (Wt:List (Option Addr)) (C:Option Addr) (M:List En) (t:CT) (w:World) (e:Ending) (w':World):Prop:=
 e = .returned (.tuple #[])∧((t.sh.length=0∧Below w.heap.size w w')∨(t.sh.length≠0∧∃ C' A' wc' d,Sw w' k q sq px py lv K A' wc' (Wt ++ [t.ptr])∧QH w' sq C' (⟨d,0,Wt.length⟩ :: M)∧Chg (fun j=>j=k∨gP A j∨j=sq∨gP C j) w w'∧(∀ j,gP A' j→gP A j∨w.heap.size≤j)∧(∀ j,gP C' j→gP C j∨w.heap.size≤j)∧∀ j,gP A' j→¬ gP C' j))
set_option maxHeartbeats 16000000 in
theorem cnode_any (k q sq wc z:Nat) (px py lv:Int) (K:Value) (A:Option Addr) (Wt:List (Option Addr)) (C:Option Addr) (M:List En) (t:CT) (l x y:Int) (w:World) (h:Sw w k q sq px py lv K A wc Wt) (ht:t.In w z l x y) (hq:QH w sq C M) (hM:M.length≤400000) (hW:Wt.length≤400000) (hks:sq < k) (hkb:∀ b,t.Bl b→b < k) (hCk:∀ j,gP C j→k < j) (hAC:∀ j,gP A j→¬ gP C j):
  Calls Tryz.prog 98 #[.pointer (some ⟨k,0,none⟩), .pointer t.ptr] w (CndPost k q sq wc px py lv K A Wt C M t w):=by
 generalize hPost:CndPost k q sq wc px py lv K A Wt C M t w=Post
 cases t with
 | nil=>
  have hen:=eql_node0
  clear h ht hq
  rw [show CT.nil.ptr=none from rfl]
  go_enter Tryz.func98,Tryz.ntmps98
  go_wp2_with fail
  exact bodyPost_ret (results_none rfl _ _ _) rfl (by rw [← hPost];exact ⟨rfl, .inl ⟨rfl,q9l⟩⟩)
 | node b m L kk=>
  have hen:=eql_node
  have hCA:=ht.1
  obtain ⟨n,hn⟩:∃ n,(CT.node b m L kk).sh.length=n:=⟨_,rfl⟩
  rw [hn] at hCA
  have hbl:=hCA.1
  have n0:w.cell? ⟨b,0,none⟩=some (.int .i64 l):=(hCA.2 0 (by decide)).1
  have n1:w.cell? ⟨b,1,none⟩=some (.int .i64 x):=(hCA.2 1 (by decide)).1
  have n2:w.cell? ⟨b,2,none⟩=some (.int .i64 y):=(hCA.2 2 (by decide)).1
  have n7:w.cell? ⟨b,7,none⟩=some (.int .i64 (n:Nat)):=(hCA.2 7 (by decide)).1
  rw [show (CT.node b m L kk).ptr=some ⟨b,0,none⟩ from rfl]
  cases n with
  | zero=>
   have n7:w.cell? ⟨b,7,none⟩=some (.int .i64 0):=n7
   have HN:=Lib.hid hn
   clear h ht hq hCA n0 n1 n2 hn
   go_enter Tryz.func98,Tryz.ntmps98
   go_wp2_with fail
   exact bodyPost_ret (results_none rfl _ _ _) rfl (by rw [← hPost];exact ⟨rfl, .inl ⟨HN.out,q9l⟩⟩)
  | succ n=>
   have hd7:((((n+1:Nat):Int)) == 0)=false:=by simp;omega
   obtain ⟨i0,hi,hz0,hz1,hz2⟩:=info_parts (show (Tryz.prog.info? 121).map (fun i=>(i.zero,i.size,i.bytes))=some (some (.pointer none),1,8) by kernel_rfl)
   have pb:=fun (Y:World)=>box_any l x y Y
   obtain ⟨cb,hcb⟩:∃ z,crightB l x y=z:=⟨_,rfl⟩
   rw [hcb] at pb
   obtain ⟨v1,hv1⟩:∃ z,sel cb (x*sd l)=z:=⟨_,rfl⟩
   obtain ⟨v2,hv2⟩:∃ z,sel cb (y*sd l)=z:=⟨_,rfl⟩
   obtain ⟨v3,hv3⟩:∃ z,sel cb (x*sd l+sd l - 1)=z:=⟨_,rfl⟩
   obtain ⟨v4,hv4⟩:∃ z,sel cb (y*sd l+sd l - 1)=z:=⟨_,rfl⟩
   rw [hv1,hv2,hv3,hv4] at pb
   have PB:=Lib.hid pb
   have hkl:=h.lt
   have c5:=h.c5
   have f5:=h.f5
   have c6:=h.c6
   have hAf:=h.far
   obtain ⟨wn,hwn⟩:∃ n,Wt.length=n:=⟨_,rfl⟩
   have hown:=h.own
   rw [hwn] at c5 hown hW
   have H:=Lib.hid (show Sw w k q sq px py lv K A wc Wt∧QH w sq C M∧w.ownsRow (k+1) 121 1 (.slice A wn wc) wn (Wt.map Value.pointer)∧Wt.length=wn∧(∀ j,gP A j→k < j∧j < w.heap.size)∧(∀ j,gP C j→k < j)∧(∀ j,gP A j→¬ gP C j)∧(CT.node b m L kk).sh.length=n+1 from ⟨h,hq,hown,hwn,hAf,hCk,hAC,hn⟩)
   clear h ht hq hCA hown hwn hn pb hcb hv1 hv2 hv3 hv4 hAf hCk hAC
   go_enter Tryz.func98,Tryz.ntmps98
   go_wp2_with (first
    | (go_at_call 30;refine (PB.out _).mono ?_;rintro e w' ⟨rfl,hb⟩;obtain ⟨X1,rfl,hl1,hm1⟩:=later _ hb (Nat.le_refl _);clear hb;(try simp only [q9A,q9B,q9D] at hm1 hl1))
    | (at_builtin;refine wpList_append_own_at _ rfl _ _ 180 rfl (k+1) 121 i0 (.pointer none) 1 8 Tryz.underlying180 hi hz0 hz1 hz2 rfl (by decide) (.slice A wn wc) wn _ (by rfl) (own_keep H.out.2.2.1 (show Below w.heap.size w ((X1.w.alloc (.cells #[.int .i64 v1, .int .i64 v2, .int .i64 v3, .int .i64 v4] 24)).alloc (.cells #[.pointer (some ⟨b,0,none⟩)] 121)) from q9l)) ⟨X1.w.heap.size+1,0,none⟩ 1 1 [.pointer (some ⟨b,0,none⟩)] (by rfl) (by rfl) (by
     have h9:=cells_one_new (X1.w.alloc (.cells #[.int .i64 v1, .int .i64 v2, .int .i64 v3, .int .i64 v4] 24)) (.pointer (some ⟨b,0,none⟩)) 121
     rw [show (X1.w.alloc (.cells #[.int .i64 v1, .int .i64 v2, .int .i64 v3, .int .i64 v4] 24)).heap.size=X1.w.heap.size+1 by simp] at h9
     exact h9) (by intro u hu;simp at hu;subst hu;rfl) (by unfold maxLen;omega) (by omega) (by simp;omega) ?_))
   intro v9 w3 hown3 hgrow3 _ hat3
   obtain ⟨A3,k3,rfl⟩:=own_formN hown3
   have hlt:=H.out.2.2.1.lt
   have hAfar:=H.out.2.2.2.2.1
   have hb0:Below w.heap.size w ((X1.w.alloc (.cells #[.int .i64 v1, .int .i64 v2, .int .i64 v3, .int .i64 v4] 24)).alloc (.cells #[.pointer (some ⟨b,0,none⟩)] 121)):=q9l
   have hX:w.heap.size≤X1.w.heap.size:=X1.is.size
   have hcg:Chg (gP A) ((X1.w.alloc (.cells #[.int .i64 v1, .int .i64 v2, .int .i64 v3, .int .i64 v4] 24)).alloc (.cells #[.pointer (some ⟨b,0,none⟩)] 121)) w3:=Chg.ofGrown (X:=gP A) hgrow3 (fun k hk=>by rw [gOf_own] at hk;exact hk)
   have hc3:Chg (gP A) w w3:=(Chg.of hb0).trans hcg (fun k hk => .inl hk)
   have hA3:∀ j,gP A3 j→gP A j∨w.heap.size≤j:=fun j hj=>by
    rw [gOf_own,gOf_own] at hat3
    rcases hat3 with e|e
    ·exact .inl (e.symm.trans hj)
    ·refine .inr ?_
     unfold gP at hj
     rw [e] at hj
     injection hj with hj
     try simp at hj
     omega
   have hkA:¬ gP A k:=fun e=>Nat.lt_irrefl _ (hAfar k e).1
   have hAbx:¬ gP A X1.w.heap.size:=fun e=>by have:=(hAfar _ e).2;omega
   have hbx:∀ i,w3.cell? ⟨X1.w.heap.size,i,none⟩=((X1.w.alloc (.cells #[.int .i64 v1, .int .i64 v2, .int .i64 v3, .int .i64 v4] 24)).alloc (.cells #[.pointer (some ⟨b,0,none⟩)] 121)).cell? ⟨X1.w.heap.size,i,none⟩:=fun i=>hcg.cell (p:=⟨X1.w.heap.size,i,none⟩) (by simp;omega) hAbx
   have b0:=(hbx 0).trans (show _=some (.int .i64 v1) by go_simp)
   have b1:=(hbx 1).trans (show _=some (.int .i64 v2) by go_simp)
   have b2:=(hbx 2).trans (show _=some (.int .i64 v3) by go_simp)
   have b3:=(hbx 3).trans (show _=some (.int .i64 v4) by go_simp)
   have m4:w3.cell? ⟨k,5,none⟩=some (.slice A wn wc):=(hc3.cell (p:=⟨k,5,none⟩) hkl hkA).trans c5
   have m6:w3.cell? ⟨k,6,none⟩=some (.pointer (some ⟨sq,0,none⟩)):=(hc3.cell (p:=⟨k,6,none⟩) hkl hkA).trans c6
   have g5:w3.frozen? ⟨k,5,none⟩=false:=(hc3.frozen (p:=⟨k,5,none⟩) hkl hkA).trans f5
   have hk3:k < w3.heap.size:=Nat.lt_of_lt_of_le hkl hc3.size
   have hx3:X1.w.heap.size < w3.heap.size:=cell_lt b0
   have hxk:k < X1.w.heap.size:=by omega
   have hsV:(w3.setCell ⟨k,5,none⟩ (.slice A3 (wn+1) k3)).heap.size=w3.heap.size:=by simp
   have d5:(w3.setCell ⟨k,5,none⟩ (.slice A3 (wn+1) k3)).cell? ⟨k,5,none⟩=some (.slice A3 (wn+1) k3):=by go_simp
   have d6:(w3.setCell ⟨k,5,none⟩ (.slice A3 (wn+1) k3)).cell? ⟨k,6,none⟩=some (.pointer (some ⟨sq,0,none⟩)):=by go_simp
   have x0:(w3.setCell ⟨k,5,none⟩ (.slice A3 (wn+1) k3)).cell? ⟨X1.w.heap.size,0,none⟩=some (.int .i64 v1):=by go_simp
   have x1:(w3.setCell ⟨k,5,none⟩ (.slice A3 (wn+1) k3)).cell? ⟨X1.w.heap.size,1,none⟩=some (.int .i64 v2):=by go_simp
   have x2:(w3.setCell ⟨k,5,none⟩ (.slice A3 (wn+1) k3)).cell? ⟨X1.w.heap.size,2,none⟩=some (.int .i64 v3):=by go_simp
   have x3:(w3.setCell ⟨k,5,none⟩ (.slice A3 (wn+1) k3)).cell? ⟨X1.w.heap.size,3,none⟩=some (.int .i64 v4):=by go_simp
   have e5:(w3.setCell ⟨k,5,none⟩ (.slice A3 (wn+1) k3)).frozen? ⟨k,5,none⟩=false:=by go_simp
   have hcV:Chg (fun j=>j=k∨gP A j) w (w3.setCell ⟨k,5,none⟩ (.slice A3 (wn+1) k3)):=(hc3.mono (fun j hj => .inl (.inr hj))).set (p:=⟨k,5,none⟩) (.inl (.inl rfl)) _
   have h0:=H.out.1
   have y0:w3.cell? ⟨k,0,none⟩=some (.pointer (some ⟨q,0,none⟩)):=(hc3.cell (p:=⟨k,0,none⟩) hkl hkA).trans h0.c0
   have z0:(w3.setCell ⟨k,5,none⟩ (.slice A3 (wn+1) k3)).cell? ⟨k,0,none⟩=some (.pointer (some ⟨q,0,none⟩)):=by go_simp
   have y1:w3.cell? ⟨k,1,none⟩=some (.int .i64 px):=(hc3.cell (p:=⟨k,1,none⟩) hkl hkA).trans h0.c1
   have z1:(w3.setCell ⟨k,5,none⟩ (.slice A3 (wn+1) k3)).cell? ⟨k,1,none⟩=some (.int .i64 px):=by go_simp
   have y2:w3.cell? ⟨k,2,none⟩=some (.int .i64 py):=(hc3.cell (p:=⟨k,2,none⟩) hkl hkA).trans h0.c2
   have z2:(w3.setCell ⟨k,5,none⟩ (.slice A3 (wn+1) k3)).cell? ⟨k,2,none⟩=some (.int .i64 py):=by go_simp
   have y3:w3.cell? ⟨k,3,none⟩=some (.int .i64 lv):=(hc3.cell (p:=⟨k,3,none⟩) hkl hkA).trans h0.c3
   have z3:(w3.setCell ⟨k,5,none⟩ (.slice A3 (wn+1) k3)).cell? ⟨k,3,none⟩=some (.int .i64 lv):=by go_simp
   have y4:w3.cell? ⟨k,4,none⟩=some (K):=(hc3.cell (p:=⟨k,4,none⟩) hkl hkA).trans h0.c4
   have z4:(w3.setCell ⟨k,5,none⟩ (.slice A3 (wn+1) k3)).cell? ⟨k,4,none⟩=some (K):=by go_simp
   have hownV:=own_set hown3 (p:=⟨k,5,none⟩) (by show k < k+1;omega) (.slice A3 (wn+1) k3)
   obtain ⟨V,hV⟩:∃ V,w3.setCell ⟨k,5,none⟩ (.slice A3 (wn+1) k3)=V:=⟨_,rfl⟩
   rw [hV] at hsV d5 d6 x0 x1 x2 x3 e5 hcV z0 z1 z2 z3 z4 hownV
   have hSw:Sw V k q sq px py lv K A3 k3 (Wt ++ [some ⟨b,0,none⟩]):=by
    have hl9:(Wt ++ [some (⟨b,0,none⟩:Addr)]).length=wn+1:=by rw [List.length_append,H.out.2.2.2.1];rfl
    refine ⟨z0,z1,z2,z3,z4,by rw [hl9];exact d5,d6,e5,?_⟩
    rw [hl9,List.map_append]
    exact hownV
   have hqV:QH V sq C M:=H.out.2.1.chg hcV (fun e=>e.elim (fun e=>by omega) (fun e=>by have:=(hAfar _ e).1;omega)) (fun j hj e=>e.elim (fun e=>by have:=H.out.2.2.2.2.2.1 j hj;omega) (fun e=>H.out.2.2.2.2.2.2.1 j e hj))
   have PF:=Lib.hid (fun (Y:World) (hY:Below V.heap.size V Y)=>cfar_any k q sq k3 px py lv K A3 (Wt ++ [some ⟨b,0,none⟩]) v1 v2 v3 v4 Y (hSw.keep hY))
   generalize farC px py lv v1 v2 v3 v4=dd at PF
   have HX:=Lib.hid (show Sw V k q sq px py lv K A3 k3 (Wt ++ [some ⟨b,0,none⟩])∧QH V sq C M∧Chg (fun j=>j=k∨gP A j) w V∧(∀ j,gP A3 j→gP A j∨w.heap.size≤j) from ⟨hSw,hqV,hcV,hA3⟩)
   clear h0 y0 y1 y2 y3 y4 z0 z1 z2 z3 z4 hownV e5 hown3 hgrow3 hat3 hlt hAfar hb0 hcg hc3 hA3 hkA hAbx hbx hSw hqV hcV
   have hkV:k < V.heap.size:=by omega
   have hxV:X1.w.heap.size < V.heap.size:=by omega
   go_wp2_with fail
   clear hV hsV b0 b1 b2 b3 m4 m6 g5 hk3 hx3
   (refine wp_region_later_tail 14 (V.heap.size) (by kernel_rfl) (by kernel_rfl) (by go_size) ?_;simp only [List.take_succ_cons,List.take_zero,List.drop_succ_cons,List.drop_zero];(repeat (go_big_quiet_step ((first|(go_at_call 129;exact Later.call _ (Nat.le_trans (by go_size) (Later.is _).size) (PF.out _ q9l))))));refine wpQuiet_nil ?_;intro Xr hlXr hmXr)
   have hbr:Below V.heap.size V Xr.w:=q9l
   go_wp2_with fail
   go_at_call 86
   refine (qpush_any sq C M ⟨dd,0,wn⟩ _ (HX.out.2.1.keep hbr) (by omega)).mono ?_
   rintro e w2 ⟨rfl,C',hq,hc,hC⟩
   have HE:=Lib.hid (show Post (.returned (.tuple #[])) w2 by
    rw [← hPost]
    obtain ⟨hSw,hqV,hcV,hA3⟩:=HX.out
    have hsV2:=hcV.size
    have hcr:Chg (fun j=>j=k∨gP A j) w Xr.w:=hcV.trans (Chg.of (X:=fun _=>False) hbr) (fun _ e=>e.elim)
    have hsr:w.heap.size≤Xr.w.heap.size:=hcr.size
    have hd3:∀ j,gP A3 j→¬ (j=sq∨gP C j):=fun j hj e=>by
     have h1:=(hSw.far j hj).1
     rcases e with e|e
     ·omega
     ·rcases hA3 j hj with h2|h2
      ·exact H.out.2.2.2.2.2.2.1 j h2 e
      ·have:=(H.out.2.1.far j e).2;omega
    refine ⟨rfl, .inr ⟨by rw [H.out.2.2.2.2.2.2.2];omega,C',A3,k3,dd,(hSw.keep hbr).chg hc (fun e=>e.elim (fun e=>by omega) (fun e=>by have:=H.out.2.2.2.2.2.1 k e;omega)) hd3,by rw [H.out.2.2.2.1];exact hq,(hcr.mono (X':=fun j=>j=k∨gP A j∨j=sq∨gP C j) (fun j hj => .inl (hj.elim .inl (fun e => .inr (.inl e))))).trans hc (fun j hj => .inl (.inr (.inr hj))),hA3,fun j hj=>(hC j hj).elim .inl (fun e => .inr (by omega)),fun j hj e=>?_⟩⟩
    rcases hC j e with e|e
    ·exact hd3 j hj (.inr e)
    ·have:=(hSw.keep hbr).far j hj;omega)
   clear hq hc hC
   go_wp2_with fail
   exact bodyPost_end (v := .tuple #[]) (by first|rfl|kernel_rfl) rfl HE.out
def QXC (bt k sq:Nat) (A C:Option Addr):Nat→Prop:=fun j=>j=bt∨j=k∨j=sq∨gP A j∨gP C j
structure SkC (T:Nat→(Nat→Prop)→World→Prop) (G0:Nat→Prop) (bt k q sq bm z:Nat) (T0:CT) (R:List Sh) (px py lv:Int) (K:Value) (n:Nat) (A:Option Addr) (wc:Nat) (Wt:List (Option Addr)) (C:Option Addr) (M:List En) (w:World):Prop where
 sk:Sw w k q sq px py lv K A wc Wt
 g:CtI w q bm z T0 R
 qh:QH w sq C M
 t:T n (gU (gU G0 A) C) w
 kC:∀ j,gP C j→k < j
 ac:∀ j,gP A j→¬ gP C j
 g0:∀ x,G0 x→x < w.heap.size
 gs:G0 sq
 gk:G0 k
 bs:bt < sq
 sl:sq < k
 far:∀ j,(CX bm T0 j∨j=q)→j < sq∧j≠bt
section
variable {T:Nat→(Nat→Prop)→World→Prop} {G0:Nat→Prop} {bt k q sq bm z wc wc' n n':Nat} {T0:CT} {R:List Sh} {A A' C C':Option Addr} {Wt Wt':List (Option Addr)} {px py lv:Int} {K:Value} {M M':List En} {w w' w2:World}
theorem SkC.ng (h:SkC T G0 bt k q sq bm z T0 R px py lv K n A wc Wt C M w):∀ j,(CX bm T0 j∨j=q)→¬ QXC bt k sq A C j:=fun j hj e=>by
 have h1:=h.far j hj
 have h2:=h.sl
 rcases e with e|e|e|e|e
 ·exact h1.2 e
 ·omega
 ·omega
 ·have:=(h.sk.far j e).1;omega
 ·have:=h.kC j e;omega
theorem SkC.step (h:SkC T G0 bt k q sq bm z T0 R px py lv K n A wc Wt C M w) (hc:Chg (QXC bt k sq A C) w w') (hs:Sw w' k q sq px py lv K A' wc' Wt') (hq:QH w' sq C' M') (ht:T n' (gU (gU G0 A') C') w') (hC:∀ j,gP C' j→gP C j∨w.heap.size≤j) (hac:∀ j,gP A' j→¬ gP C' j):SkC T G0 bt k q sq bm z T0 R px py lv K n' A' wc' Wt' C' M' w':=
 ⟨hs,h.g.chg hc (h.ng q (.inr rfl)) (fun j hj=>h.ng j (.inl hj)),hq,ht,fun j hj=>(hC j hj).elim (h.kC j) (fun e=>Nat.lt_of_lt_of_le h.sk.lt e),hac,fun x hx=>Nat.lt_of_lt_of_le (h.g0 x hx) hc.size,h.gs,h.gk,h.bs,h.sl,h.far⟩
theorem SkC.nkb (h:SkC T G0 bt k q sq bm z T0 R px py lv K n A wc Wt C M w):k≠bt:=by have:=h.bs;have:=h.sl;omega
theorem SkC.called {α:Type} {fk:Nat} {args:α→Array Value} {kp:α→Bool} (EN:Env fk args bt kp T) (h:SkC T G0 bt k q sq bm z T0 R px py lv K n A wc Wt C M w) (hc:Chg (fun j=>j=bt) w w') (ht:T n' (gU (gU G0 A) C) w'):SkC T G0 bt k q sq bm z T0 R px py lv K n' A wc Wt C M w':=by
 have h1:=h.bs
 have h2:=h.sl
 refine h.step (hc.mono (fun j e => .inl (.inl e))) (h.sk.chg hc h.nkb (fun j hj e=>?_)) (h.qh.chg hc (fun e=>by have e':sq=bt:=e;omega) (fun j hj e=>?_)) ht (fun j hj => .inl hj) h.ac
 ·have:=(h.sk.far j hj).1;have e':j=bt:=e;omega
 ·have:=h.kC j hj;have e':j=bt:=e;omega
theorem SkC.keep {α:Type} {fk:Nat} {args:α→Array Value} {kp:α→Bool} (EN:Env fk args bt kp T) (h:SkC T G0 bt k q sq bm z T0 R px py lv K n A wc Wt C M w) (hb:Below w.heap.size w w'):SkC T G0 bt k q sq bm z T0 R px py lv K n A wc Wt C M w':=
 h.called EN (Chg.of hb) (EN.below h.t hb)
theorem SkC.pushed {α:Type} {fk:Nat} {args:α→Array Value} {kp:α→Bool} (EN:Env fk args bt kp T) (h:SkC T G0 bt k q sq bm z T0 R px py lv K n A wc Wt C M w) (hc:Chg (fun j=>j=sq∨gP C j) w w') (hq:QH w' sq C' M') (hC:∀ j,gP C' j→gP C j∨w.heap.size≤j):SkC T G0 bt k q sq bm z T0 R px py lv K n A wc Wt C' M' w':=by
 have h2:=h.sl
 have hA:=h.sk.far
 refine h.step (hc.mono (fun j e => .inl (.inr (.inr (e.elim .inl (fun e => .inr (.inr e))))))) (h.sk.chg hc (fun e=>e.elim (fun e=>by omega) (fun e=>by have:=h.kC k e;omega)) (fun j hj e=>e.elim (fun e=>by have:=(hA j hj).1;omega) (h.ac j hj))) hq (EN.step h.t (fun j hj _=>hc.block j (by assumption) (fun e=>hj (e.elim (fun e => .inl (.inl (by rw [e];exact h.gs))) .inr))) hc.size (fun x hx=>hx.elim (fun e => .inl (.inl e)) (fun e=>(hC x e).elim (fun e => .inl (.inr e)) .inr))) hC (fun j hj e=>(hC j e).elim (h.ac j hj) (fun e=>by have:=(hA j hj).2;omega))
theorem SkC.gw (h:SkC T G0 bt k q sq bm z T0 R px py lv K n A wc Wt C M w):∀ x,gU (gU G0 A) C x→x < w.heap.size:=fun x hx=>hx.elim (fun e=>e.elim (h.g0 x) (fun e=>(h.sk.far x e).2)) (fun e=>(h.qh.far x e).2)
theorem SkC.swap {α:Type} {fk:Nat} {args:α→Array Value} {kp:α→Bool} {G1:Nat→Prop} (EN:Env fk args bt kp T) (h:SkC T G0 bt k q sq bm z T0 R px py lv K n A wc Wt C M w) (hg:∀ x,G1 x→G0 x) (hs:G1 sq) (hk:G1 k):SkC T G1 bt k q sq bm z T0 R px py lv K n A wc Wt C M w:=
 ⟨h.sk,h.g,h.qh,EN.step h.t (fun _ _ _=>rfl) (Nat.le_refl _) (fun x hx => .inl (hx.elim (fun e => .inl (e.elim (fun e => .inl (hg x e)) .inr)) .inr)),h.kC,h.ac,fun x hx=>h.g0 x (hg x hx),hs,hk,h.bs,h.sl,h.far⟩
theorem SkC.grow {α:Type} {fk:Nat} {args:α→Array Value} {kp:α→Bool} {G1:Nat→Prop} (EN:Env fk args bt kp T) (h:SkC T G0 bt k q sq bm z T0 R px py lv K n A wc Wt C M w) (hb:Below w.heap.size w w') (hg:∀ x,G1 x→G0 x∨w.heap.size≤x) (hl:∀ x,G1 x→x < w'.heap.size) (hs:G1 sq) (hk:G1 k):SkC T G1 bt k q sq bm z T0 R px py lv K n A wc Wt C M w':=by
 have h0:=h.keep EN hb
 exact ⟨h0.sk,h0.g,h0.qh,EN.step h.t (fun j _ hj=>hb.block j hj) hb.size (fun x hx=>hx.elim (fun e=>e.elim (fun e=>(hg x e).elim (fun e => .inl (.inl (.inl e))) .inr) (fun e => .inl (.inl (.inr e)))) (fun e => .inl (.inr e))),h.kC,h.ac,hl,hs,hk,h.bs,h.sl,h.far⟩
theorem SkC.iter {α:Type} {fk:Nat} {args:α→Array Value} {kp:α→Bool} {r:Nat} (EN:Env fk args bt kp T) (h:SkC T G0 bt k q sq bm z T0 R px py lv K n A wc Wt C M w) (hr:G0 r) (h1:k < r) (h2:¬ gP A r) (h3:¬ gP C r) (hc:Chg (fun j=>j=r) w w'):SkC T G0 bt k q sq bm z T0 R px py lv K n A wc Wt C M w':=by
 have hsl:=h.sl
 exact ⟨h.sk.chg hc (fun e=>by have e':k=r:=e;omega) (fun j hj e=>h2 (by rw [← show j=r from e];exact hj)),h.g.chg hc (fun e=>by have e':q=r:=e;have:=(h.far q (.inr rfl)).1;omega) (fun j hj e=>by have e':j=r:=e;have:=(h.far j (.inl hj)).1;omega),h.qh.chg hc (fun e=>by have e':sq=r:=e;omega) (fun j hj e=>h3 (by rw [← show j=r from e];exact hj)),EN.step h.t (fun j hj hl=>hc.block j hl (fun e=>hj (.inl (.inl (by rw [show j=r from e];exact hr))))) hc.size (fun x hx => .inl hx),h.kC,h.ac,fun x hx=>Nat.lt_of_lt_of_le (h.g0 x hx) hc.size,h.gs,h.gk,h.bs,h.sl,h.far⟩
theorem QXC_trans (h1:∀ j,gP A' j→gP A j∨w.heap.size≤j) (h2:∀ j,gP C' j→gP C j∨w.heap.size≤j):∀ j,QXC bt k sq A' C' j→QXC bt k sq A C j∨w.heap.size≤j:=fun j hj=>by
 rcases hj with e|e|e|e|e
 ·exact .inl (.inl e)
 ·exact .inl (.inr (.inl e))
 ·exact .inl (.inr (.inr (.inl e)))
 ·exact (h1 j e).elim (fun e => .inl (.inr (.inr (.inr (.inl e))))) .inr
 ·exact (h2 j e).elim (fun e => .inl (.inr (.inr (.inr (.inr e))))) .inr
end
theorem node_skc {α:Type} {fk:Nat} {args:α→Array Value} {bt:Nat} {kp:α→Bool} {T:Nat→(Nat→Prop)→World→Prop} (EN:Env fk args bt kp T) {G0:Nat→Prop} {n k q sq bm z wc:Nat} {T0:CT} {R:List Sh} {A C:Option Addr} {Wt:List (Option Addr)} {M:List En} {px py lv:Int} {K:Value} (t:CT) {l x y:Int} {w:World}
  (h:SkC T G0 bt k q sq bm z T0 R px py lv K n A wc Wt C M w) (ht:t.In w z l x y) (hb:∀ j,t.Bl j→T0.Bl j) (hM:M.length≤400000) (hW:Wt.length≤400000):
  Calls Tryz.prog 98 #[.pointer (some ⟨k,0,none⟩), .pointer t.ptr] w fun e w'=>e = .returned (.tuple #[])∧∃ C' A' wc' Ws d,SkC T G0 bt k q sq bm z T0 R px py lv K n A' wc' (Wt ++ Ws) C' (if t.sh.length=0 then M else ⟨d,0,Wt.length⟩ :: M) w'∧(t.sh.length≠0→Ws=[t.ptr])∧Ws.length≤1∧Chg (QXC bt k sq A C) w w'∧(∀ j,gP C' j→gP C j∨w.heap.size≤j)∧∀ j,gP A' j→gP A j∨w.heap.size≤j:=by
 refine (cnode_any k q sq wc z px py lv K A Wt C M t l x y w h.sk ht h.qh hM hW h.sl (fun b hbb=>by have:=(h.far b (.inl (.inr (hb b hbb)))).1;have:=h.sl;omega) h.kC h.ac).mono ?_
 rintro e w' ⟨rfl,⟨h0,hbw⟩|⟨h0,C',A',wc',d,hs,hq,hc,hA,hC,hac⟩⟩
 ·exact ⟨rfl,C,A,wc,[],0,by rw [if_pos h0,List.append_nil];exact h.keep EN hbw,fun e=>absurd h0 e,Nat.zero_le _,Chg.of hbw,fun j hj => .inl hj,fun j hj => .inl hj⟩
 ·have hc':Chg (QXC bt k sq A C) w w':=hc.mono (fun j hj => .inl (by
   rcases hj with e|e|e|e
   ·exact .inr (.inl e)
   ·exact .inr (.inr (.inr (.inl e)))
   ·exact .inr (.inr (.inl e))
   ·exact .inr (.inr (.inr (.inr e)))))
  refine ⟨rfl,C',A',wc',[t.ptr],d,?_,fun _=>rfl,Nat.le_refl _,hc',hC,hA⟩
  rw [if_neg h0]
  refine h.step hc' hs hq (EN.step h.t (fun j hj hjs=>hc.block j hjs (fun e=>hj ?_)) hc.size (fun x hx=>?_)) hC hac
  ·rcases e with e|e|e|e
   ·exact .inl (.inl (by rw [e];exact h.gk))
   ·exact .inl (.inr e)
   ·exact .inl (.inl (by rw [e];exact h.gs))
   ·exact .inr e
  ·rcases hx with (e|e)|e
   ·exact .inl (.inl (.inl e))
   ·exact (hA x e).elim (fun e => .inl (.inl (.inr e))) .inr
   ·exact (hC x e).elim (fun e => .inl (.inr e)) .inr
end Go.Proofs.YthlijfligikciaaGreat
