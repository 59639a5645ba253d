/- A part of one proof: PnF. No condition. -/
import Derived.Test.YthlijfligikciaaGreatY29
import Derived.Test.YthlijfligikciaaGreatY30
namespace Go.Proofs.YthlijfligikciaaGreat
open Go.RowKit Go.Maps
set_option linter.unusedSimpArgs false
set_option linter.unusedVariables false
set_option maxRecDepth 2000
structure NrL (T:Nat→(Nat→Prop)→World→Prop) (G1:Nat→Prop) (bt k q s sq cc:Nat) (Ct:Option Addr) (N:List NdP) (px py lv:Int) (K:Value) (kp:Rc→Bool) (R:List Rc) (nm:Nat) (w:World) (A:Option Addr) (out:List Rc) (ca n:Nat) (C:Option Addr) (I:List It) (wr:World):Prop where
 sk:SkI T (gU G1 A) bt k q s sq cc Ct N px py lv K n C (I.map It.en) wr
 chg:Chg (fun j=>j=bt) w wr
 own:wr.ownsRow w.heap.size 32 4 (.slice A out.length ca) out.length (rcF out)
 ap:∀ j,gP A j→¬ QX bt sq C j
 far:∀ j,gP C j→w.heap.size≤j
 ka:∀ j,gP A j→k < j
 its:(out ++ itsR kp I).Perm (R.filter kp)
 ok:∀ i ∈ I,ItOk N kp R i
 cnt:n+2*wts I≤nm
theorem exists_least {P:Nat→Prop} (h:∃ n,P n):∃ n,P n∧∀ m,P m→n≤m:=by
 obtain ⟨n,hn⟩:=h
 induction n using Nat.strongRecOn with
 | _ n ih=>
  by_cases h9:∃ m,m < n∧P m
  ·obtain ⟨m,hm,hp⟩:=h9
   exact ih m hm hp
  ·exact ⟨n,hn,fun m hm=>Nat.le_of_not_lt (fun e=>h9 ⟨m,e,hm⟩)⟩
open Classical in
noncomputable def leastM (P:Nat→Prop):Nat:=if h:∃ n,P n then (exists_least h).choose else 0
theorem leastM_spec {P:Nat→Prop} (h:∃ n,P n):P (leastM P):=by
 unfold leastM
 rw [dif_pos h]
 exact (exists_least h).choose_spec.1
theorem leastM_le {P:Nat→Prop} {n:Nat} (h:P n):leastM P≤n:=by
 unfold leastM
 rw [dif_pos ⟨n,h⟩]
 exact (exists_least ⟨n,h⟩).choose_spec.2 n h
def NrR (T:Nat→(Nat→Prop)→World→Prop) (G1:Nat→Prop) (bt k q s sq cc:Nat) (Ct:Option Addr) (N:List NdP) (px py lv:Int) (K:Value) (kp:Rc→Bool) (R:List Rc) (nm:Nat) (w:World) (l:Value) (wr:World) (mm:Nat):Prop:=
 ∃ A on ca n' C I out,l = .slice A on ca∧NrL T G1 bt k q s sq cc Ct N px py lv K kp R nm w A out ca n' C I wr∧out.length=on∧wts I=mm
theorem gU_swap {G:Nat→Prop} {A C:Option Addr} {x:Nat} (h:gU (gU G A) C x):G x∨gP A x∨gP C x:=by
 rcases h with (h|h)|h
 ·exact .inl h
 ·exact .inr (.inl h)
 ·exact .inr (.inr h)
theorem recS_at {R:List Rc} {r:Rc} (hn:(R.map (·.id)).Nodup) (hr:r ∈ R):recS R r.id=some (recV r):=by
 cases h9:recS R r.id with
 | none=>exact absurd rfl (recS_none h9 r hr)
 | some v=>
  obtain ⟨r',hr',e,rfl⟩:=recS_some h9
  obtain ⟨A,B,rfl⟩:=List.append_of_mem hr
  have hp:(A ++ r :: B).Perm (r :: (A ++ B)):=List.perm_middle
  have hids:=(hp.map (·.id)).nodup_iff.1 hn
  rw [List.map_cons,List.nodup_cons] at hids
  rcases List.mem_cons.1 (hp.mem_iff.1 hr') with rfl|hr''
  ·rfl
  ·exact absurd (List.mem_map.2 ⟨r',hr'',e⟩) hids.1
set_option maxHeartbeats 16000000 in
theorem pnearest_any (wb vb zb bt:Nat) (kp:Rc→Bool) (T:Nat→(Nat→Prop)→World→Prop) (EN:Env 44 (fun r:Rc=>#[.agg #[.int .i64 r.id, .int .i64 r.x, .int .i64 r.y, .int .i64 r.label], .pointer (some ⟨wb,0,none⟩), .pointer (some ⟨vb,0,none⟩), .pointer (some ⟨zb,0,none⟩)]) bt kp T) (G0:Nat→Prop) (q s cc n m:Nat) (Ct:Option Addr) (N:List NdP) (t:QT) (R:List Rc) (px py lv:Int) (w:World)
  (hP:PtI w s q Ct cc N t R) (hT:T n G0 w) (hg0:∀ x,G0 x→x < w.heap.size) (hR:R.length≤1000) (hm:R.length < m) (hm9:m≤1000000) (hn:n+2*t.wt≤400000) (hlv:0≤lv∧lv≤16) (hpf:fitsB px py=true) (hX:∀ j,PX q Ct N j→j≠bt) (hsb:s≠bt):
  Calls Tryz.prog 45 #[.pointer (some ⟨q,0,none⟩), .agg #[.int .i64 px, .int .i64 py], .int .i64 m, .int .i64 lv,(.func (.func 44) #[] #[.pointer (some ⟨wb,0,none⟩), .pointer (some ⟨vb,0,none⟩), .pointer (some ⟨zb,0,none⟩)])] w fun e w'=>∃ A ca out n',e = .returned (.slice A (out:List Rc).length ca)∧w'.ownsRow w.heap.size 32 4 (.slice A out.length ca) out.length (rcF out)∧out.Perm (R.filter kp)∧T n' (gU G0 A) w'∧n'≤n+2*t.wt∧Chg (fun j=>j=bt) w w':=by
 obtain ⟨i0,hi,hz0,hz1,hz2⟩:=info_parts (show (Tryz.prog.info? 32).map (fun i=>(i.zero,i.size,i.bytes))=some (some (.agg #[.int .i64 0, .int .i64 0, .int .i64 0, .int .i64 0]),4,32) by kernel_rfl)
 have PM:=Lib.hid (fun (Y:World) (hY:Below w.heap.size w Y)=>pmade_any q N.length cc Ct Y ((hY.cell (p:=⟨q,1,none⟩) hP.g.lt).trans hP.g.c1) hP.pos)
 have pf:=fun (Y:World)=>fits_any px py Y
 rw [hpf] at pf
 have PF:=Lib.hid pf
 have PQ:=Lib.hid (fun (Y:World)=>qnew_any Y)
 have hd0:decide (lv < 0)=false:=decide_eq_false (by omega)
 have hd1:decide (16 < lv)=false:=decide_eq_false (by omega)
 have hbl:=EN.lt hT
 have hql:=hP.g.lt
 have hls:=hP.g.ls
 have hwt:=wt_le t
 have hNl:=hP.len
 have hrl:=hP.recs.length_eq
 have hwt9:t.wt≤200000:=by omega
 have hN9:N.length≤1000000:=by omega
 have H:=Lib.hid (show PtI w s q Ct cc N t R∧T n G0 w∧(∀ x,G0 x→x < w.heap.size)∧(0≤lv∧lv≤16)∧(∀ j,PX q Ct N j→j≠bt)∧s≠bt∧n+2*t.wt≤400000 from ⟨hP,hT,hg0,hlv,hX,hsb,hn⟩)
 clear pf hP hT hg0 hlv hpf hX hwt hNl hrl hn
 go_enter Tryz.func45,Tryz.ntmps45
 go_wp2_with fail
 go_step3
 go_wp2_with (first
  | (go_at_call 58;refine (PM.out _ q9l).mono ?_;rintro e w' ⟨rfl,hb⟩;obtain ⟨X1,rfl,hl1,hm1⟩:=later _ hb (Nat.le_refl _);clear hb;(try simp only [q9A,q9B,q9D] at hm1 hl1))
  | (go_at_call 10;refine (PF.out _).mono ?_;rintro e w' ⟨rfl,hb⟩;obtain ⟨X2,rfl,hl2,hm2⟩:=later _ hb (Nat.le_refl _);clear hb;(try simp only [q9A,q9B,q9D] at hm2 hl2)))
 have hb2:Below w.heap.size w X2.w:=q9l
 have hs2:w.heap.size+1≤X2.w.heap.size:=by go_size
 have HS:(fun w'=>w'.cell? ⟨w.heap.size,0,none⟩=some (.int .i64 px)∧w'.cell? ⟨w.heap.size,1,none⟩=some (.int .i64 py)) X2.w.drew:=⟨by go_simp,by go_simp⟩
 refine wp_region_early (fun w'=>w'.cell? ⟨w.heap.size,0,none⟩=some (.int .i64 px)∧w'.cell? ⟨w.heap.size,1,none⟩=some (.int .i64 py)) (fun _=>true) (by kernel_rfl) HS (fun HS=>?_)
 (refine q9t (i:=0) rfl HS ?_;(try simp only [Act.put,q9x,q9y,q9z]))
 (refine q9t (i:=1) rfl HS ?_;(try simp only [Act.put,q9x,q9y,q9z]))
 (refine q9t (i:=2) rfl HS ?_;(try simp only [Act.put,q9x,q9y,q9z]))
 (refine q9t (i:=3) rfl HS ?_;(try simp only [Act.put,q9x,q9y,q9z]))
 refine wpAnyE_one (i:=4) rfl (by kernel_rfl) ?_
 go_wp2_with fail
 go_at_call 81
 refine (PQ.out _).mono ?_
 rintro e w3 ⟨rfl,hq3,hb3⟩
 simp only [World.size_drew] at hq3 hb3 ⊢
 have hb3':Below w.heap.size w w3:=hb2.drew.trans (hb3.mono hb2.size)
 have HS3:(fun w'=>w'.cell? ⟨w.heap.size,0,none⟩=some (.int .i64 px)∧w'.cell? ⟨w.heap.size,1,none⟩=some (.int .i64 py)) w3:=⟨(hb3.cell (p:=⟨w.heap.size,0,none⟩) (by show w.heap.size < _;omega)).trans (by go_simp),(hb3.cell (p:=⟨w.heap.size,1,none⟩) (by show w.heap.size < _;omega)).trans (by go_simp)⟩
 have hqs:=hq3.lt
 have HB3:=Lib.hid (And.intro hb3' hq3)
 obtain ⟨sq,hsq⟩:∃ n,X2.w.heap.size=n:=⟨_,rfl⟩
 rw [hsq] at HB3 hs2 hqs ⊢
 have HSQ:=Lib.hid hsq
 clear hsq hb3 hb3' hq3 hb2
 go_wp2_with fail
 first|refine ⟨fun _=>HS3,?_⟩|skip
 refine wpAnyE_one (i:=5) rfl (by kernel_rfl) ?_
 go_wp2_with fail
 first|refine ⟨fun _=>HS3,?_⟩|skip
 refine wpAnyE_one (i:=6) rfl (by kernel_rfl) ?_
 go_wp2_with fail
 have HS4:(fun w'=>w'.cell? ⟨w.heap.size,0,none⟩=some (.int .i64 px)∧w'.cell? ⟨w.heap.size,1,none⟩=some (.int .i64 py)) (w3.alloc (.cells #[.pointer (some ⟨q,0,none⟩), .int .i64 px, .int .i64 py, .int .i64 lv,(.func (.func 44) #[] #[.pointer (some ⟨wb,0,none⟩), .pointer (some ⟨vb,0,none⟩), .pointer (some ⟨zb,0,none⟩)]), .pointer (some ⟨sq,0,none⟩)] 170)):=⟨by go_simp,by go_simp⟩
 refine ⟨fun _=>HS4,?_⟩
 refine wpAnyE_one (i:=7) rfl (by kernel_rfl) ?_
 go_wp2_with fail
 first|refine ⟨fun _=>HS4,?_⟩|skip
 refine ⟨by kernel_rfl,?_⟩
 have hk0:(w3.alloc (.cells #[.pointer (some ⟨q,0,none⟩), .int .i64 px, .int .i64 py, .int .i64 lv,(.func (.func 44) #[] #[.pointer (some ⟨wb,0,none⟩), .pointer (some ⟨vb,0,none⟩), .pointer (some ⟨zb,0,none⟩)]), .pointer (some ⟨sq,0,none⟩)] 170)).cell? ⟨w3.heap.size,0,none⟩=some (.pointer (some ⟨q,0,none⟩)):=by go_simp
 have hk1:(w3.alloc (.cells #[.pointer (some ⟨q,0,none⟩), .int .i64 px, .int .i64 py, .int .i64 lv,(.func (.func 44) #[] #[.pointer (some ⟨wb,0,none⟩), .pointer (some ⟨vb,0,none⟩), .pointer (some ⟨zb,0,none⟩)]), .pointer (some ⟨sq,0,none⟩)] 170)).cell? ⟨w3.heap.size,1,none⟩=some (.int .i64 px):=by go_simp
 have hk2:(w3.alloc (.cells #[.pointer (some ⟨q,0,none⟩), .int .i64 px, .int .i64 py, .int .i64 lv,(.func (.func 44) #[] #[.pointer (some ⟨wb,0,none⟩), .pointer (some ⟨vb,0,none⟩), .pointer (some ⟨zb,0,none⟩)]), .pointer (some ⟨sq,0,none⟩)] 170)).cell? ⟨w3.heap.size,2,none⟩=some (.int .i64 py):=by go_simp
 have hk3:(w3.alloc (.cells #[.pointer (some ⟨q,0,none⟩), .int .i64 px, .int .i64 py, .int .i64 lv,(.func (.func 44) #[] #[.pointer (some ⟨wb,0,none⟩), .pointer (some ⟨vb,0,none⟩), .pointer (some ⟨zb,0,none⟩)]), .pointer (some ⟨sq,0,none⟩)] 170)).cell? ⟨w3.heap.size,3,none⟩=some (.int .i64 lv):=by go_simp
 have hk4:(w3.alloc (.cells #[.pointer (some ⟨q,0,none⟩), .int .i64 px, .int .i64 py, .int .i64 lv,(.func (.func 44) #[] #[.pointer (some ⟨wb,0,none⟩), .pointer (some ⟨vb,0,none⟩), .pointer (some ⟨zb,0,none⟩)]), .pointer (some ⟨sq,0,none⟩)] 170)).cell? ⟨w3.heap.size,4,none⟩=some (.func (.func 44) #[] #[.pointer (some ⟨wb,0,none⟩), .pointer (some ⟨vb,0,none⟩), .pointer (some ⟨zb,0,none⟩)]):=by go_simp
 have hk5:(w3.alloc (.cells #[.pointer (some ⟨q,0,none⟩), .int .i64 px, .int .i64 py, .int .i64 lv,(.func (.func 44) #[] #[.pointer (some ⟨wb,0,none⟩), .pointer (some ⟨vb,0,none⟩), .pointer (some ⟨zb,0,none⟩)]), .pointer (some ⟨sq,0,none⟩)] 170)).cell? ⟨w3.heap.size,5,none⟩=some (.pointer (some ⟨sq,0,none⟩)):=by go_simp
 have HB4:=Lib.hid (show Below w.heap.size w (w3.alloc (.cells #[.pointer (some ⟨q,0,none⟩), .int .i64 px, .int .i64 py, .int .i64 lv,(.func (.func 44) #[] #[.pointer (some ⟨wb,0,none⟩), .pointer (some ⟨vb,0,none⟩), .pointer (some ⟨zb,0,none⟩)]), .pointer (some ⟨sq,0,none⟩)] 170))∧Sk (w3.alloc (.cells #[.pointer (some ⟨q,0,none⟩), .int .i64 px, .int .i64 py, .int .i64 lv,(.func (.func 44) #[] #[.pointer (some ⟨wb,0,none⟩), .pointer (some ⟨vb,0,none⟩), .pointer (some ⟨zb,0,none⟩)]), .pointer (some ⟨sq,0,none⟩)] 170)) w3.heap.size q sq px py lv (.func (.func 44) #[] #[.pointer (some ⟨wb,0,none⟩), .pointer (some ⟨vb,0,none⟩), .pointer (some ⟨zb,0,none⟩)])∧Qu (w3.alloc (.cells #[.pointer (some ⟨q,0,none⟩), .int .i64 px, .int .i64 py, .int .i64 lv,(.func (.func 44) #[] #[.pointer (some ⟨wb,0,none⟩), .pointer (some ⟨vb,0,none⟩), .pointer (some ⟨zb,0,none⟩)]), .pointer (some ⟨sq,0,none⟩)] 170)) sq none 0 0 [] from ⟨HB3.out.1.alloc HB3.out.1.size _,⟨hk0,hk1,hk2,hk3,hk4,hk5⟩,HB3.out.2.alloc _⟩)
 have hs4:w3.heap.size < (w3.alloc (.cells #[.pointer (some ⟨q,0,none⟩), .int .i64 px, .int .i64 py, .int .i64 lv,(.func (.func 44) #[] #[.pointer (some ⟨wb,0,none⟩), .pointer (some ⟨vb,0,none⟩), .pointer (some ⟨zb,0,none⟩)]), .pointer (some ⟨sq,0,none⟩)] 170)).heap.size:=by simp
 obtain ⟨k,hk⟩:∃ n,w3.heap.size=n:=⟨_,rfl⟩
 rw [hk] at HB4 hs4 hqs ⊢
 clear hk0 hk1 hk2 hk3 hk4 hk5 HS HS3 HS4
 generalize w3.alloc (.cells #[.pointer (some ⟨q,0,none⟩), .int .i64 px, .int .i64 py, .int .i64 lv,(.func (.func 44) #[] #[.pointer (some ⟨wb,0,none⟩), .pointer (some ⟨vb,0,none⟩), .pointer (some ⟨zb,0,none⟩)]), .pointer (some ⟨sq,0,none⟩)] 170)=w4 at HB4 hs4 ⊢
 clear HB3 hk w3
 have hI4:SkI T (fun x=>G0 x∨x=sq) bt k q s sq cc Ct N px py lv (.func (.func 44) #[] #[.pointer (some ⟨wb,0,none⟩), .pointer (some ⟨vb,0,none⟩), .pointer (some ⟨zb,0,none⟩)]) n none [] w4:=by
  have hbt:bt < sq:=by omega
  refine ⟨HB4.out.2.1,H.out.1.g.keep (HB4.out.1.mono (Nat.le_refl _)),⟨0,0,[],HB4.out.2.2,rfl,fun k _ hk=>absurd hk (by omega),List.Perm.refl _⟩,EN.step H.out.2.1 (fun j _ hj=>HB4.out.1.block j hj) HB4.out.1.size (fun x hx=>hx.elim (fun e=>e.elim .inl (fun e => .inr (by omega))) (fun e=>by cases e)),fun j e=>(by cases e),fun x hx=>hx.elim (fun e=>Nat.lt_of_lt_of_le (H.out.2.2.1 x e) HB4.out.1.size) (fun e=>by omega), .inr rfl,hbt,by omega,fun j hj=>⟨?_,H.out.2.2.2.2.1 j hj⟩⟩
  have:=(H.out.1.g.far j hj).2
  omega
 have pn:=node_ski EN 0 hI4 H.out.1.pos hN9 (by simp)
 rw [show (ndAt N 0).1.many=t.rs.length by have h9:=holds_many H.out.1.tr;rw [H.out.1.at0] at h9;exact h9] at pn
 have PN:=Lib.hid pn
 have H4:=Lib.hid hI4
 clear pn hI4
 go_wp2_with fail
 go_at_call 88
 refine PN.out.mono ?_
 rintro e w5 ⟨rfl,C5,d5,hI5,hc5,hC5⟩
 have hs5:=hc5.size
 have hb4s:=HB4.out.1.size
 have k5:w5.cell? ⟨k,5,none⟩=some (.pointer (some ⟨sq,0,none⟩)):=hI5.sk.c5
 have hI5k:=hI5.sk.lt
 have hI5w:w.heap.size≤w5.heap.size:=by omega
 have H5:=Lib.hid (show ∃ n' I,NrL T (fun x=>G0 x∨x=sq) bt k q s sq cc Ct N px py lv (.func (.func 44) #[] #[.pointer (some ⟨wb,0,none⟩), .pointer (some ⟨vb,0,none⟩), .pointer (some ⟨zb,0,none⟩)]) kp R (n+2*t.wt) w none [] 0 n' C5 I w5 by
  have hcw:Chg (fun j=>j=bt) w w5:=(Chg.of (X:=fun j=>j=bt) HB4.out.1).trans hc5 (fun j hj=>by
   rcases hj with e|e|e
   ·exact .inl e
   ·exact .inr (by omega)
   ·cases e)
  have hfar5:∀ j,gP C5 j→w.heap.size≤j:=fun j hj=>(hC5 j hj).elim (fun e=>by cases e) (fun e=>by omega)
  have hgu:∀ {G:Nat→Prop} {C:Option Addr} {x:Nat},gU (gU G none) C x→gU G C x:=fun h=>h.elim (fun h=>h.elim .inl (fun e=>by cases e)) .inr
  have hsk:∀ {M:List En},SkI T (fun x=>G0 x∨x=sq) bt k q s sq cc Ct N px py lv (.func (.func 44) #[] #[.pointer (some ⟨wb,0,none⟩), .pointer (some ⟨vb,0,none⟩), .pointer (some ⟨zb,0,none⟩)]) n C5 M w5→SkI T (gU (fun x=>G0 x∨x=sq) none) bt k q s sq cc Ct N px py lv (.func (.func 44) #[] #[.pointer (some ⟨wb,0,none⟩), .pointer (some ⟨vb,0,none⟩), .pointer (some ⟨zb,0,none⟩)]) n C5 M w5:=fun h=>⟨h.sk,h.g,h.qh,EN.step h.t (fun _ _ _=>rfl) (Nat.le_refl _) (fun x hx => .inl (hgu hx)),h.kC,fun x hx=>hx.elim (h.g0 x) (fun e=>by cases e), .inl h.gs,h.bs,h.sl,h.far⟩
  by_cases h0:t.rs.length=0
  ·rw [if_pos h0] at hI5
   refine ⟨n,[],hsk hI5,hcw,World.ownsRow_nil _ _ _ _,fun j e=>(by cases e),hfar5,fun j e=>(by cases e),?_,fun i hi=>(by cases hi),(by rw [wts_nil];omega)⟩
   have hR0:R=[]:=List.length_eq_zero_iff.1 (by have:=H.out.1.recs.length_eq;omega)
   rw [hR0]
   exact List.Perm.refl _
  ·rw [if_neg h0] at hI5
   refine ⟨n,[.nd d5 t],?_,hcw,World.ownsRow_nil _ _ _ _,fun j e=>(by cases e),hfar5,fun j e=>(by cases e),?_,fun i hi=>?_,?_⟩
   ·rw [show [It.nd d5 t].map It.en=[⟨d5,0,(0:Nat)⟩] by simp [It.en,H.out.1.at0]]
    exact hsk hI5
   ·rw [its_cons,its_nil,List.append_nil,List.nil_append]
    exact H.out.1.recs.filter _
   ·rw [List.mem_singleton.1 hi]
    exact ⟨0,0,0,H.out.1.tr,fun r hr=>H.out.1.recs.mem_iff.1 hr⟩
   ·rw [wts_cons,wts_nil];show n+2*(t.wt+0)≤_;omega)
 clear hI5 hc5 hC5 PN
 go_wp2_with fail
 go_step3
 go_wp2_with fail
 have hm5:∀ (W:World),Chg (fun j=>j=bt) w W→M1 W s R.length (recS R):=fun W hW=>H.out.1.m.chg hW H.out.2.2.2.2.2.1
 have HM:=Lib.hid hm5
 have q3:=H.out.1.g.c3
 have hqb:q≠bt:=H.out.2.2.2.2.1 q (.inl rfl)
 have hsn:s≠bt:=H.out.2.2.2.2.2.1
 have hsl:s < w.heap.size:=H.out.1.m.lt
 clear hm5
 go_loopw [12] (fun l wr=>∃ (A:Option Addr) (on ca:Nat),l = .slice A on ca∧on≤1000∧(k < wr.heap.size∧w.heap.size≤wr.heap.size)∧wr.cell? ⟨k,5,none⟩=some (.pointer (some ⟨sq,0,none⟩))∧Hid (∃ mm,NrR T (fun x=>G0 x∨x=sq) bt k q s sq cc Ct N px py lv (.func (.func 44) #[] #[.pointer (some ⟨wb,0,none⟩), .pointer (some ⟨vb,0,none⟩), .pointer (some ⟨zb,0,none⟩)]) kp R (n+2*t.wt) w l wr mm))
  (fun l wr=>leastM (NrR T (fun x=>G0 x∨x=sq) bt k q s sq cc Ct N px py lv (.func (.func 44) #[] #[.pointer (some ⟨wb,0,none⟩), .pointer (some ⟨vb,0,none⟩), .pointer (some ⟨zb,0,none⟩)]) kp R (n+2*t.wt) w l wr))
 case atStart=>
  obtain ⟨n',I,hN⟩:=H5.out
  exact ⟨none,0,0,rfl,by omega,⟨hI5k,hI5w⟩,k5,⟨_,none,0,0,n',C5,I,[],rfl,hN,rfl,rfl⟩⟩
 case round=>
  obtain ⟨A,on,ca,rfl,hon,⟨hkl,hwl⟩,k5,hrel⟩:=hrel
  obtain ⟨A',on',ca',n',C,I,out,hl,hN,hlen,hmm⟩:=leastM_spec hrel.out
  injection hl with e1 e2 e3
  subst e1 e2 e3
  have hol:out.length < R.length+1:=by
   have h9:=hN.its.length_eq
   have h8:=List.length_filter_le kp R
   rw [List.length_append] at h9
   omega
  have hdl:decide (on < m)=true:=decide_eq_true (by omega)
  have hwI:wts I≤200000:=by have:=hN.cnt;have:=H.out.2.2.2.2.2.2;omega
  have hIl:=wts_len I
  cases I with
  | nil=>
   have HN:=Lib.hid hN
   have HL:=Lib.hid (And.intro hlen hmm)
   clear hrel hN hlen hmm hIl hwI hol
   go_wp2_with fail
   refine (qpop_nil sq C wr HN.out.sk.qh).mono ?_
   rintro e w6 ⟨rfl,hb6⟩
   have HE:=Lib.hid (show ∃ out:List Rc,out.length=on∧w6.ownsRow w.heap.size 32 4 (.slice A out.length ca) out.length (rcF out)∧out.Perm (R.filter kp)∧T n' (gU G0 A) w6∧n'≤n+2*t.wt∧Chg (fun j=>j=bt) w w6 by
    have hp:=HN.out.its
    rw [its_nil,List.append_nil] at hp
    exact ⟨out,HL.out.1,own_keep HN.out.own hb6,hp,EN.step HN.out.sk.t (fun j _ hj=>hb6.block j hj) hb6.size (fun x hx => .inl (hx.elim (fun e => .inl (.inl (.inl e))) (fun e => .inl (.inr e)))),by have:=HN.out.cnt;omega,HN.out.chg.trans (Chg.of (X:=fun _=>False) hb6) (fun _ e=>e.elim)⟩)
   obtain ⟨X6,rfl,hl6,hm6⟩:=later _ hb6 (Nat.le_refl _)
   clear hb6
   go_wp2_with fail
   (try rw [Exit.noGoto_ret])
   go_ret
   obtain ⟨out',ho,hown,hp,hT,hn',hc⟩:=HE.out
   subst ho
   have hbZ:Below X6.w.heap.size X6.w (X6.w.alloc (.cells #[.int .u64 0, .int .u64 0, .int .i64 0] 165)):=(Below.refl _ _).alloc (Nat.le_refl _) _
   exact ⟨A,ca,out',n',rfl,own_keep hown hbZ,hp,EN.below hT hbZ,hn',hc.trans (Chg.of (X:=fun _=>False) hbZ) (fun _ e=>e.elim)⟩
  | cons j0 J0=>
   have HN:=Lib.hid hN
   have HL:=Lib.hid (And.intro hlen hmm)
   clear hrel hN hlen hmm
   have hlm:((j0 :: J0).map It.en).length≤500000:=by rw [List.length_map];omega
   go_wp2_with fail
   refine (qpop_any sq C ((j0 :: J0).map It.en) wr HN.out.sk.qh hlm (by simp)).mono ?_
   rintro e w6 ⟨en,M',rfl,hperm,_,hq6,hc6⟩
   obtain ⟨i,I',hpI,hen,hpM⟩:=its_pop (List.Perm.refl _) hperm
   subst hen
   have hs6:=hc6.size
   have hc6':Chg (QX bt sq C) wr w6:=hc6.mono (fun j hj => .inl (.inr hj))
   have hS6:SkI T (gU (fun x=>G0 x∨x=sq) A) bt k q s sq cc Ct N px py lv (.func (.func 44) #[] #[.pointer (some ⟨wb,0,none⟩), .pointer (some ⟨vb,0,none⟩), .pointer (some ⟨zb,0,none⟩)]) n' C (I'.map It.en) w6:=HN.out.sk.step hc6' (hq6.perm hpM) (EN.step HN.out.sk.t (fun j hj hjs=>hc6.block j hjs (fun e=>hj (e.elim (fun e => .inl (.inl (.inr e))) .inr))) hc6.size (fun x hx => .inl hx)) (fun j hj => .inl hj)
   have hcw6:Chg (fun j=>j=bt) w w6:=HN.out.chg.trans hc6 (fun j hj => .inr (hj.elim (fun e=>by omega) (fun e=>HN.out.far j e)))
   have hown6:w6.ownsRow w.heap.size 32 4 (.slice A out.length ca) out.length (rcF out):=own_chg HN.out.own hc6' (fun j hj=>HN.out.ap j (by rw [gOf_own] at hj;exact hj))
   have hwt:wts (j0 :: J0)=i.wt+wts I':=by rw [wts_perm hpI,wts_cons]
   have hok:=ok_perm HN.out.ok hpI
   have hA6:∀ j,gP A j→j < wr.heap.size:=fun j hj=>(HN.out.own.lt j (by rw [gOf_own];exact hj)).2
   have H6:=Lib.hid (And.intro hS6 (And.intro hcw6 (And.intro hown6 (And.intro hwt (And.intro hpI hA6)))))
   have HO:=Lib.hid hok
   clear hperm hpM hq6 hc6 hc6' hS6 hcw6 hown6 hlm hpI hok hA6
   cases i with
   | nd dd t'=>
    have hwt':wts (j0 :: J0)=t'.wt+wts I':=hwt
    obtain ⟨⟨l',x',y',hh,htR⟩,_⟩:ItOk N kp R (.nd dd t')∧True:=⟨HO.out _ (List.mem_cons_self ..),trivial⟩
    simp only [It.en]
    have hcnt:=HN.out.cnt
    have hn9:=H.out.2.2.2.2.2.2
    have hI'l:=wts_len I'
    have PO:=Lib.hid (fun (Y:World) (hY:Below w6.heap.size w6 Y)=>popen_any wb vb zb bt kp T EN R (gU (fun x=>G0 x∨x=sq) A) k q s sq cc n' Ct C N hN9 px py lv (I'.map It.en) t' l' x' y' Y (H6.out.1.keep EN hY) hh htR (by omega) (by rw [List.length_map];omega) H.out.2.2.2.1)
    obtain ⟨ta,hta⟩:∃ z:Nat,t'.at_=z:=⟨_,rfl⟩
    rw [hta] at PO ⊢
    have hkl6:k < w6.heap.size:=by omega
    clear hh htR hwt hta k5
    go_wp2_with fail
    go_at_call 90
    have hb7:Below w6.heap.size w6 (w6.alloc (.cells #[.int .u64 dd, .int .u64 0, .int .i64 (ta:Nat)] 165)):=(Below.refl _ _).alloc (Nat.le_refl _) _
    refine (PO.out _ hb7).mono ?_
    rintro e w8 ⟨rfl,C8,J,n8,hS8,hc8,hC8,hpJ,hokJ,hwJ,hn8⟩
    have hs7:=hb7.size
    have hs8:=hc8.size
    have k58:w8.cell? ⟨k,5,none⟩=some (.pointer (some ⟨sq,0,none⟩)):=hS8.sk.c5
    have HE:=Lib.hid (show NrR T (fun x=>G0 x∨x=sq) bt k q s sq cc Ct N px py lv (.func (.func 44) #[] #[.pointer (some ⟨wb,0,none⟩), .pointer (some ⟨vb,0,none⟩), .pointer (some ⟨zb,0,none⟩)]) kp R (n+2*t.wt) w (.slice A on ca) w8 (wts (J ++ I')) by
     have hX6:∀ j,QX bt sq C j→j=bt∨w.heap.size≤j:=fun j hj=>by
      rcases hj with e|e|e
      ·exact .inl e
      ·exact .inr (by omega)
      ·exact .inr (HN.out.far j e)
     have hap8:∀ j,gP A j→¬ QX bt sq C8 j:=fun j hj e=>by
      rcases e with e|e|e
      ·exact HN.out.ap j hj (.inl e)
      ·exact HN.out.ap j hj (.inr (.inl e))
      ·rcases hC8 j e with e'|e'
       ·exact HN.out.ap j hj (.inr (.inr e'))
       ·have:=H6.out.2.2.2.2.2 j hj;omega
     refine ⟨A,on,ca,n8,C8,J ++ I',out,rfl,⟨?_,?_,?_,hap8,?_,HN.out.ka,?_,?_,?_⟩,HL.out.1,rfl⟩
     ·rw [List.map_append];exact hS8
     ·exact (H6.out.2.1.trans (Chg.of (X:=fun _=>False) hb7) (fun _ e=>e.elim)).trans hc8 (fun j hj=>hX6 j hj)
     ·exact own_chg (own_keep H6.out.2.2.1 hb7) hc8 (fun j hj=>HN.out.ap j (by rw [gOf_own] at hj;exact hj))
     ·exact fun j hj=>(hC8 j hj).elim (HN.out.far j) (fun e=>by omega)
     ·exact its_open HN.out.its H6.out.2.2.2.2.1 hpJ
     ·exact fun i hi=>(List.mem_append.1 hi).elim (hokJ i) (fun e=>HO.out i (List.mem_cons_of_mem _ e))
     ·rw [wts_app];omega)
    have hdec:wts (J ++ I') < wts (j0 :: J0):=by rw [wts_app];omega
    clear hS8 hc8 hC8 hpJ hokJ hwJ hn8 hb7
    go_wp2_with fail
    go_roundw
    case rel=>exact ⟨A,on,ca,rfl,hon,⟨by omega,by omega⟩,k58,⟨_,HE.out⟩⟩
    case measure=>exact Nat.lt_of_le_of_lt (leastM_le HE.out) (by rw [← HL.out.2];exact hdec)
   | rc dd r=>
    have hr:=HO.out _ (List.mem_cons_self ..)
    have hwt':wts (j0 :: J0)=1+wts I':=hwt
    simp only [It.en]
    have hm6:=HM.out w6 H6.out.2.1
    have q36:w6.cell? ⟨q,3,none⟩=some (.map (some s)):=(H6.out.2.1.cell (p:=⟨q,3,none⟩) hql hqb).trans q3
    have hlk:=fun (W:World) (hW:W.heap[s]? = w6.heap[s]?)=>(hm6.same hW).look (mt:=110) Tryz.underlying110 (zero_rec W) (H.out.1.wf r hr.1)
    rw [recS_at H.out.1.ids hr.1] at hlk
    simp only [Option.getD_some,recV] at hlk
    obtain ⟨om,hom⟩:∃ o,w6.heap[s]? = o:=⟨_,rfl⟩
    rw [hom] at hlk
    have hsl6:s < w6.heap.size:=by omega
    have hql6:q < w6.heap.size:=by omega
    have hown6:=H6.out.2.2.1
    rw [HL.out.1] at hown6
    have HW6:=Lib.hid hown6
    have hA6:=H6.out.2.2.2.2.2
    have HA6:=Lib.hid hA6
    clear hwt hm6 k5 hown6 hA6 hr
    go_wp2_with fail
    have hbE:Below w6.heap.size w6 (w6.alloc (.cells #[.int .u64 dd, .int .u64 1, .int .i64 r.id] 165)).drew:=((Below.refl w6.heap.size w6).alloc (Nat.le_refl _) _).drew
    have HS:(fun w'=>w'.heap[s]? = om∧w'.cell? ⟨q,3,none⟩=some (.map (some s))∧w'.cell? ⟨w6.heap.size,2,none⟩=some (.int .i64 r.id)) (w6.alloc (.cells #[.int .u64 dd, .int .u64 1, .int .i64 r.id] 165)).drew:=⟨(hbE.block _ hsl6).trans hom,by go_simp,by go_simp⟩
    refine wp_region_early (fun w'=>w'.heap[s]? = om∧w'.cell? ⟨q,3,none⟩=some (.map (some s))∧w'.cell? ⟨w6.heap.size,2,none⟩=some (.int .i64 r.id)) (fun j=>decide (j < 10)) (by kernel_rfl) HS (fun HS=>?_)
    (refine q9t (i:=0) rfl HS ?_;(try simp only [Act.put,q9x,q9y,q9z]))
    (refine q9t (i:=1) rfl HS ?_;(try simp only [Act.put,q9x,q9y,q9z]))
    (refine q9t (i:=2) rfl HS ?_;(try simp only [Act.put,q9x,q9y,q9z]))
    (refine q9t (i:=3) rfl HS ?_;(try simp only [Act.put,q9x,q9y,q9z]))
    (refine q9t (i:=4) rfl HS ?_;(try simp only [Act.put,q9x,q9y,q9z]))
    (refine q9t (i:=5) rfl HS ?_;(try simp only [Act.put,q9x,q9y,q9z]))
    (refine q9t (i:=6) rfl HS ?_;(try simp only [Act.put,q9x,q9y,q9z]))
    (refine q9t (i:=7) rfl HS ?_;(try simp only [Act.put,q9x,q9y,q9z]))
    refine wpAnyE_one (i:=8) rfl (by kernel_rfl) ?_
    go_wp2_with fail
    have hbF:Below w6.heap.size w6 ((w6.alloc (.cells #[.int .u64 dd, .int .u64 1, .int .i64 r.id] 165)).drew.alloc (.cells #[.int .i64 r.id, .int .i64 r.x, .int .i64 r.y, .int .i64 r.label] 32)):=hbE.alloc (by simp) _
    have HS8:(fun w'=>w'.heap[s]? = om∧w'.cell? ⟨q,3,none⟩=some (.map (some s))∧w'.cell? ⟨w6.heap.size,2,none⟩=some (.int .i64 r.id)) ((w6.alloc (.cells #[.int .u64 dd, .int .u64 1, .int .i64 r.id] 165)).drew.alloc (.cells #[.int .i64 r.id, .int .i64 r.x, .int .i64 r.y, .int .i64 r.label] 32)):=⟨(hbF.block _ hsl6).trans hom,by go_simp,by go_simp⟩
    first|refine ⟨fun _=>HS8,?_⟩|refine ⟨HS8.1,?_⟩|skip
    refine wpAnyE_one (i:=9) rfl (by kernel_rfl) ?_
    refine wpList_append_own_at _ rfl _ _ 53 rfl w.heap.size 32 i0 (.agg #[.int .i64 0, .int .i64 0, .int .i64 0, .int .i64 0]) 4 32 Tryz.underlying53 hi hz0 hz1 hz2 rfl (by decide) (.slice A on ca) on _ (by rfl) (own_keep HW6.out hbF) ⟨w6.heap.size+1,0,none⟩ 1 1 [.int .i64 r.id, .int .i64 r.x, .int .i64 r.y, .int .i64 r.label] (by rfl) (by rfl) (by
     have h9:=cells_four_new (w6.alloc (.cells #[.int .u64 dd, .int .u64 1, .int .i64 r.id] 165)).drew (.int .i64 r.id) (.int .i64 r.x) (.int .i64 r.y) (.int .i64 r.label) 32
     have e9:(w6.alloc (.cells #[.int .u64 dd, .int .u64 1, .int .i64 r.id] 165)).drew.heap.size=w6.heap.size+1:=by simp
     rw [e9] at h9
     exact h9) (by intro u hu;simp at hu;rcases hu with rfl|rfl|rfl|rfl <;> rfl) (by unfold maxLen;omega) (by omega) (by simp;omega) ?_
    intro v3 w9 hown3 hgrow3 _ hat3
    obtain ⟨A3,k3,rfl⟩:=own_formN hown3
    have hc9:Chg (gP A) w6 w9:=(Chg.of (X:=gP A) hbF).trans (Chg.ofGrown (X:=gP A) hgrow3 (fun k hk=>by rw [gOf_own] at hk;exact hk)) (fun k hk => .inl hk)
    have hs9:=hc9.size
    have hA9:∀ j,gP A3 j→gP A j∨w6.heap.size≤j:=fun j hj=>by
     rw [gOf_own,gOf_own] at hat3
     rcases hat3 with e|e
     ·exact .inl (e.symm.trans hj)
     ·refine .inr ?_
      unfold gP at hj
      rw [e] at hj
      injection hj with hj
      simp at hj
      omega
    have hAn:∀ j,gP A j→w.heap.size≤j:=fun j hj=>(HN.out.own.lt j (by rw [gOf_own];exact hj)).1
    have q9:w9.cell? ⟨w6.heap.size,2,none⟩=((w6.alloc (.cells #[.int .u64 dd, .int .u64 1, .int .i64 r.id] 165)).drew.alloc (.cells #[.int .i64 r.id, .int .i64 r.x, .int .i64 r.y, .int .i64 r.label] 32)).cell? ⟨w6.heap.size,2,none⟩:=hgrow3.cell_far ⟨w6.heap.size,2,none⟩ (by simp;omega) (fun e=>by rw [gOf_own] at e;have:=HA6.out w6.heap.size e.symm;omega)
    have HS9:(fun w'=>w'.heap[s]? = om∧w'.cell? ⟨q,3,none⟩=some (.map (some s))∧w'.cell? ⟨w6.heap.size,2,none⟩=some (.int .i64 r.id)) w9:=⟨(hc9.block s hsl6 (fun e=>by have:=hAn s e;omega)).trans hom,(hc9.cell (p:=⟨q,3,none⟩) hql6 (fun e=>by have h9:=hAn q e;omega)).trans q36,q9.trans (by go_simp)⟩
    first|refine ⟨fun _=>HS9,?_⟩|skip
    have k59:w9.cell? ⟨k,5,none⟩=some (.pointer (some ⟨sq,0,none⟩)):=by
     have hkA:¬ gP A k:=fun e=>by have:=HN.out.ka k e;omega
     exact (hc9.cell (p:=⟨k,5,none⟩) (by show k < _;omega) hkA).trans H6.out.1.sk.c5
    have hpo:=its_out HN.out.its H6.out.2.2.2.2.1
    have HE:=Lib.hid (show NrR T (fun x=>G0 x∨x=sq) bt k q s sq cc Ct N px py lv (.func (.func 44) #[] #[.pointer (some ⟨wb,0,none⟩), .pointer (some ⟨vb,0,none⟩), .pointer (some ⟨zb,0,none⟩)]) kp R (n+2*t.wt) w (.slice A3 (on+1) k3) w9 (wts I') by
     have hS:=H6.out.1
     have hkl9:k < w6.heap.size:=hS.sk.lt
     have hkA:¬ gP A k:=fun e=>by have:=HN.out.ka k e;omega
     have hQA:∀ j,gP A j→¬ QX bt sq C j:=HN.out.ap
     have hbs:=hS.bs
     have hsl:=hS.sl
     refine ⟨A3,on+1,k3,n',C,I',out ++ [r],rfl,⟨⟨hS.sk.chg hc9 hkA,hS.g.chg hc9 (fun j hj e=>by have h1:=(hS.far j hj).1;have h2:=HN.out.ka j e;omega),hS.qh.chg hc9 (fun e=>hQA _ e (.inr (.inl rfl))) (fun j hj e=>hQA j e (.inr (.inr hj))),EN.step hS.t (fun j hj hjs=>hc9.block j hjs (fun e=>hj (.inl (.inr e)))) hs9 (fun x hx=>?_),hS.kC,fun x hx=>?_, .inl (.inr rfl),hbs,hsl,hS.far⟩,?_,?_,?_,HN.out.far,?_,hpo,fun i hi=>HO.out i (List.mem_cons_of_mem _ hi),?_⟩,?_,rfl⟩
     ·rcases gU_swap hx with e|e|e
      ·exact .inl (.inl (.inl e))
      ·exact (hA9 x e).elim (fun e => .inl (.inl (.inr e))) .inr
      ·exact .inl (.inr e)
     ·rcases hx with e|e
      ·have:=hS.g0 x (.inl e);omega
      ·exact (hown3.lt x (by rw [gOf_own];exact e)).2
     ·exact H6.out.2.1.trans hc9 (fun j hj => .inr (hAn j hj))
     ·rw [List.length_append,HL.out.1,List.length_singleton,rcF_app]
      exact hown3
     ·intro j hj e
      rcases hA9 j hj with h1|h1
      ·exact hQA j h1 e
      ·rcases e with e|e|e
       ·omega
       ·omega
       ·have:=hS.qh.far j e;omega
     ·intro j hj
      rcases hA9 j hj with h1|h1
      ·exact HN.out.ka j h1
      ·omega
     ·have:=HN.out.cnt;omega
     ·rw [List.length_append,HL.out.1,List.length_singleton])
    have hdec:wts I' < wts (j0 :: J0):=by omega
    have hon1:on+1≤1000:=by
     have h9:=hpo.length_eq
     have h8:=List.length_filter_le kp R
     rw [List.length_append,List.length_append,HL.out.1,List.length_singleton] at h9
     omega
    clear hown3 hgrow3 q9 HS HS8 HS9 hat3 hbF hbE hom hlk hc9 hA9 hAn hpo
    refine wpAnyE_rest (k:=10) rfl (by kernel_rfl) (fun j hj=>by simp;omega) ?_
    simp only [List.drop_succ_cons,List.drop_zero]
    go_wp2_with fail
    go_roundw
    case rel=>exact ⟨A3,on+1,k3,rfl,hon1,⟨by omega,by omega⟩,k59,⟨_,HE.out⟩⟩
    case measure=>exact Nat.lt_of_le_of_lt (leastM_le HE.out) (by rw [← HL.out.2];exact hdec)
end Go.Proofs.YthlijfligikciaaGreat
