/- A part of one proof: CqD. No condition. -/
import Derived.Test.YthlijfligikciaaGreatY21
namespace Go.Proofs.YthlijfligikciaaGreat
open Go.RowKit Go.Maps
set_option linter.unusedSimpArgs false
set_option linter.unusedVariables false
set_option maxRecDepth 2000
theorem del_perm {L:List Sh} {s:Sh} (hn:(L.map (·.id)).Nodup) (hs:s ∈ L):L.Perm (s :: delS L s.id):=by
 obtain ⟨A,B,rfl⟩:=List.append_of_mem hs
 have hp:(A ++ s :: B).Perm (s :: (A ++ B)):=List.perm_middle
 have hids:=(hp.map (·.id)).nodup_iff.1 hn
 rw [List.map_cons,List.nodup_cons] at hids
 have hne:∀ u ∈ A ++ B,u.id≠s.id:=fun u hu e=>hids.1 (List.mem_map.2 ⟨u,hu,e⟩)
 refine hp.trans ?_
 have hd:delS (A ++ s :: B) s.id=A ++ B:=by
  unfold delS
  rw [List.filter_append,List.filter_cons,if_neg (by simp),← List.filter_append]
  exact List.filter_eq_self.2 (fun u hu=>by simp [hne u hu])
 rw [hd]
structure TakC (w w':World) (z:Nat) (l x y:Int) (t t':CT) (s:Sh):Prop where
 inn:t'.In w' z l x y
 at_:t'.At l x y
 sep:t'.Sep
 ptr:t'.ptr=t.ptr
 shs:t.sh.Perm (s :: t'.sh)
 bls:∀ b,t'.Bl b→t.Bl b
 chg:Chg t.Bl w w'
theorem take_here {w w':World} {z:Nat} {l x y:Int} {b m n:Nat} {L:List Sh} {k:Fin 4→CT} {s:Sh} (h:(CT.node b m L k).In w z l x y) (ha:(CT.node b m L k).At l x y) (hs:(CT.node b m L k).Sep) (hsL:s ∈ L) (hn:(CT.node b m L k).sh.length=n+1)
  (hc:CellsAt w' b 9 (ctF l x y k n m)) (hm:M1 w' m z (fun x=>if x=s.id then none else shS L x)) (hg:Chg (fun j=>j=b∨j=m) w w'):TakC w w' z l x y (.node b m L k) (.node b m (delS L s.id) k) s:=by
 have hp:(CT.node b m L k).sh.Perm (s :: (CT.node b m (delS L s.id) k).sh):=by
  rw [sh_node,sh_node]
  exact (del_perm h.2.1.ids hsL).append_right _
 have hlen:(CT.node b m (delS L s.id) k).sh.length=n:=by
  have:=hp.length_eq
  rw [List.length_cons] at this
  omega
 refine ⟨⟨by rw [hlen];exact hc,⟨?_,fun u hu=>h.2.1.wf u (delS_mem.1 hu).1,by rw [shS_del];exact hm⟩,fun j=>in_chg hg _ _ _ _ (h.2.2 j) (fun c hc e=>?_)⟩,⟨ha.1,fun u hu=>ha.2.1 u (delS_mem.1 hu).1,ha.2.2⟩,hs,rfl,hp,fun c hc=>hc,hg.mono (fun c hc => .inl (hc.elim .inl (fun e => .inr (.inl e))))⟩
 ·exact List.Nodup.sublist (List.Sublist.map _ (List.filter_sublist ..)) h.2.1.ids
 ·have:=hs.2.1 j c hc
  exact e.elim this.1 this.2
theorem take_up {w W w' w'':World} {z:Nat} {l x y:Int} {b m n:Nat} {L:List Sh} {k:Fin 4→CT} {j:Fin 4} {u t':CT} {s:Sh} (h:(CT.node b m L k).In w z l x y) (ha:(CT.node b m L k).At l x y) (hs:(CT.node b m L k).Sep) (hn:(CT.node b m L k).sh.length=n+1)
  (hgW:Chg (fun i=>i=b) w W) (hp:TakC W w' z (l+1) (kx x j) (ky y j) (k j) t' s)
  (hgw:Chg (fun i=>i=b) w' w'') (hcw:CellsAt w'' b 9 (ctF l x y (updC k j u) n m)) (hu:u=t'∨(u = .nil∧t'.sh=[])):TakC w w'' z l x y (.node b m L k) (.node b m L (updC k j u)) s:=by
 have hbw:=h.1.1
 have hmw:=h.2.1.lt
 have hsW:=hgW.size
 have hsw:=hp.chg.size
 have hkj:∀ c,(k j).Bl c→c < w.heap.size:=fun c hc=>in_lt _ _ _ _ (h.2.2 j) c hc
 have hush:u.sh=t'.sh:=by
  rcases hu with rfl|⟨rfl,e⟩
  ·rfl
  ·rw [e];rfl
 have hubl:∀ c,u.Bl c→(k j).Bl c:=fun c hc=>by
  rcases hu with rfl|⟨rfl,e⟩
  ·exact hp.bls c hc
  ·exact hc.elim
 have hgg:Chg (fun c=>c=b∨(k j).Bl c) w w'':=((hgW.mono (X':=fun c=>c=b∨(k j).Bl c) (fun c e => .inl (.inl e))).trans hp.chg (fun c hc => .inl (.inr hc))).trans hgw (fun c e => .inl (.inl e))
 have huin:u.In w'' z (l+1) (kx x j) (ky y j):=by
  rcases hu with rfl|⟨rfl,e⟩
  ·exact in_chg hgw _ _ _ _ hp.inn (fun c hc=>(hs.2.1 j c (hp.bls c hc)).1)
  ·trivial
 have huat:u.At (l+1) (kx x j) (ky y j):=by
  rcases hu with rfl|⟨rfl,e⟩
  ·exact hp.at_
  ·trivial
 have husep:u.Sep:=by
  rcases hu with rfl|⟨rfl,e⟩
  ·exact hp.sep
  ·trivial
 have hperm:(CT.node b m L k).sh.Perm (s :: (CT.node b m L (updC k j u)).sh):=by
  rw [sh_node,sh_node]
  have h9:=kids_del (k:=k) (j:=j) (t:=u) (s:=s) (by rw [hush];exact hp.shs)
  exact (h9.append_left L).trans List.perm_middle
 have hlen:(CT.node b m L (updC k j u)).sh.length=n:=by
  have:=hperm.length_eq
  rw [List.length_cons] at this
  omega
 refine ⟨⟨by rw [hlen];exact hcw,?_,fun i=>?_⟩,⟨ha.1,ha.2.1,fun i=>?_⟩,⟨hs.1,fun i c hc=>?_,fun i i' hne c hc hc'=>?_,fun i=>?_⟩,rfl,hperm,fun c hc=>?_,?_⟩
 ·exact h.2.1.same (((hgw.block m (by omega) (fun e=>hs.1 e.symm)).trans (hp.chg.block m (by omega) (fun e=>(hs.2.1 j m e).2 rfl))).trans (hgW.block m hmw (fun e=>hs.1 e.symm)))
 ·by_cases e:i=j
  ·subst e;rw [updC_same];exact huin
  ·rw [updC_other e]
   refine in_chg hgg _ _ _ _ (h.2.2 i) (fun c hc e'=>?_)
   rcases e' with e'|e'
   ·exact (hs.2.1 i c hc).1 e'
   ·exact hs.2.2.1 i j e c hc e'
 ·by_cases e:i=j
  ·subst e;rw [updC_same];exact huat
  ·rw [updC_other e];exact ha.2.2 i
 ·by_cases e:i=j
  ·subst e
   rw [updC_same] at hc
   exact hs.2.1 i c (hubl c hc)
  ·rw [updC_other e] at hc;exact hs.2.1 i c hc
 ·by_cases e:i=j
  ·subst e
   rw [updC_same] at hc
   rw [updC_other (fun e'=>hne e'.symm)] at hc'
   exact hs.2.2.1 i i' hne c (hubl c hc) hc'
  ·rw [updC_other e] at hc
   by_cases e2:i'=j
   ·subst e2
    rw [updC_same] at hc'
    exact hs.2.2.1 i i' hne c hc (hubl c hc')
   ·rw [updC_other e2] at hc';exact hs.2.2.1 i i' hne c hc hc'
 ·by_cases e:i=j
  ·subst e;rw [updC_same];exact husep
  ·rw [updC_other e];exact hs.2.2.2 i
 ·rcases hc with e|e|⟨i,hi⟩
  ·exact .inl e
  ·exact .inr (.inl e)
  ·by_cases e:i=j
   ·subst e
    rw [updC_same] at hi
    exact .inr (.inr ⟨i,hubl c hi⟩)
   ·rw [updC_other e] at hi
    exact .inr (.inr ⟨i,hi⟩)
 ·exact hgg.mono (fun c hc => .inl (hc.elim .inl (fun e => .inr (.inr ⟨j,e⟩))))
theorem ptr_node {t:CT} {b:Nat} (h:t.ptr=some ⟨b,0,none⟩):∃ m L k,t = .node b m L k:=by
 cases t with
 | nil=>cases h
 | node b' m L k=>
  injection h with h
  injection h with h
  subst h
  exact ⟨m,L,k,rfl⟩
def NtakPost (z:Nat) (l x y:Int) (t:CT) (s:Sh) (w:World) (e:Ending) (w':World):Prop:=e = .returned (.tuple #[])∧∃ t',TakC w w' z l x y t t' s
set_option maxHeartbeats 16000000 in
theorem ntake_here (s:Sh) (H HX HY:Int) (hHX:s.a / sd H=HX) (hHY:s.b / sd H=HY) (hid:wf64 s.id) (b m n:Nat) (L:List Sh) (k:Fin 4→CT) (l x y:Int) (z:Nat) (w:World) (hl:H=l) (hH:hlS s=H) (hin:(CT.node b m L k).In w z l x y) (hat:(CT.node b m L k).At l x y) (hsep:(CT.node b m L k).Sep) (hs:s ∈ (CT.node b m L k).sh) (hn:(CT.node b m L k).sh.length=n+1) (hlen:n≤1000000):
  Calls Tryz.prog 103 #[.pointer (some ⟨b,0,none⟩), .agg #[.int .i64 H, .int .i64 HX, .int .i64 HY], .int .i64 s.id] w (NtakPost z l x y (.node b m L k) s w):=by
 have hun:=at_un _ _ _ _ hat s hs
 have hxy:x=HX∧y=HY:=⟨by rw [← hHX,hl];exact hun.2.2.1.symm,by rw [← hHY,hl];exact hun.2.2.2.symm⟩
 have hEQ:=fun (W:World)=>eql_cell l x y H HX HY W
 rw [show eqC l x y H HX HY=true from eqC_iff.2 ⟨hl.symm,hxy.1,hxy.2⟩] at hEQ
 have hsL:=at_own hat hs (by rw [hH,hl])
 have hCA:=hin.1
 rw [hn] at hCA
 have hbl:=hCA.1
 have hml:=hin.2.1.lt
 have n0:w.cell? ⟨b,0,none⟩=some (.int .i64 l):=(hCA.2 0 (by decide)).1
 have n1:w.cell? ⟨b,1,none⟩=some (.int .i64 x):=(hCA.2 1 (by decide)).1
 have n2:w.cell? ⟨b,2,none⟩=some (.int .i64 y):=(hCA.2 2 (by decide)).1
 have n7:w.cell? ⟨b,7,none⟩=some (.int .i64 ((n:Int)+1)):=(hCA.2 7 (by decide)).1
 have n8:w.cell? ⟨b,8,none⟩=some (.map (some m)):=(hCA.2 8 (by decide)).1
 have f7:w.frozen? ⟨b,7,none⟩=false:=(hCA.2 7 (by decide)).2
 have hbm:=hsep.1
 have hcv:=hCA.set (j:=7) (by decide) (.int .i64 (n:Nat))
 rw [ctF_many_set] at hcv
 have hcv:=hcv.keep ((Below.refl _ _).alloc (Nat.le_refl _) (.cells #[.int .i64 H, .int .i64 HX, .int .i64 HY] 83))
 have hcg:Chg (fun j=>j=b) w ((w.setCell ⟨b,7,none⟩ (.int .i64 (n:Int))).alloc (.cells #[.int .i64 H, .int .i64 HX, .int .i64 HY] 83)):=((Chg.refl (X:=fun j=>j=b)).set (p:=⟨b,7,none⟩) (.inl rfl) _).alloc _
 have HI:=Lib.hid (And.intro hin (And.intro hat (And.intro hsep (And.intro hsL hn))))
 have HV:=Lib.hid (And.intro hcv hcg)
 generalize hPost:NtakPost z l x y (.node b m L k) s w=Post
 clear hcv hcg hin hat hsep hun hs hl hxy hH hHX hHY hCA hn hsL
 go_enter Tryz.func103,Tryz.ntmps103
 go_wp2_with fail
 have g0:((w.setCell ⟨b,7,none⟩ (.int .i64 (n:Int))).alloc (.cells #[.int .i64 H, .int .i64 HX, .int .i64 HY] 83)).cell? ⟨w.heap.size,0,none⟩=some (.int .i64 H):=by go_simp
 have g1:((w.setCell ⟨b,7,none⟩ (.int .i64 (n:Int))).alloc (.cells #[.int .i64 H, .int .i64 HX, .int .i64 HY] 83)).cell? ⟨w.heap.size,1,none⟩=some (.int .i64 HX):=by go_simp
 have g2:((w.setCell ⟨b,7,none⟩ (.int .i64 (n:Int))).alloc (.cells #[.int .i64 H, .int .i64 HX, .int .i64 HY] 83)).cell? ⟨w.heap.size,2,none⟩=some (.int .i64 HY):=by go_simp
 have vs:((w.setCell ⟨b,7,none⟩ (.int .i64 (n:Int))).alloc (.cells #[.int .i64 H, .int .i64 HX, .int .i64 HY] 83)).heap.size=w.heap.size+1:=by simp
 have m0:((w.setCell ⟨b,7,none⟩ (.int .i64 (n:Int))).alloc (.cells #[.int .i64 H, .int .i64 HX, .int .i64 HY] 83)).cell? ⟨b,0,none⟩=some (.int .i64 l):=by go_simp
 have m1:((w.setCell ⟨b,7,none⟩ (.int .i64 (n:Int))).alloc (.cells #[.int .i64 H, .int .i64 HX, .int .i64 HY] 83)).cell? ⟨b,1,none⟩=some (.int .i64 x):=by go_simp
 have m2:((w.setCell ⟨b,7,none⟩ (.int .i64 (n:Int))).alloc (.cells #[.int .i64 H, .int .i64 HX, .int .i64 HY] 83)).cell? ⟨b,2,none⟩=some (.int .i64 y):=by go_simp
 have m8:((w.setCell ⟨b,7,none⟩ (.int .i64 (n:Int))).alloc (.cells #[.int .i64 H, .int .i64 HX, .int .i64 HY] 83)).cell? ⟨b,8,none⟩=some (.map (some m)):=by go_simp
 generalize ((w.setCell ⟨b,7,none⟩ (.int .i64 (n:Int))).alloc (.cells #[.int .i64 H, .int .i64 HX, .int .i64 HY] 83))=V at g0 g1 g2 vs m0 m1 m2 m8 HV ⊢
 clear n0 n1 n2 n7 n8 f7
 (refine wp_region_later (V.heap.size) (by kernel_rfl) (by kernel_rfl) (by go_size) ?_;(repeat (go_big_quiet_step (fail)));refine wpQuiet_nil ?_;intro Xq hlXq hmXq)
 have hbq:Below V.heap.size V Xq.w:=q9l
 have hmq:Xq.w.heap[m]? = w.heap[m]? := (hbq.block m (by omega)).trans (HV.out.2.block m hml (fun e=>hbm e.symm))
 have hM9:=HI.out.1.2.1.m1.same hmq
 have HQ:=Lib.hid (And.intro hbq hM9)
 clear hbq hmq hM9
 go_wp2_with (at_delete;refine wpList_del_sh rfl _ _ 123 75 rfl Tryz.underlying123 rfl rfl hid HQ.out.2 ?_)
 intro w9 hM9 hg9
 have hgm:Chg (fun j=>j=m) Xq.w w9:=Chg.ofGrown (X:=fun j=>j=m) hg9 (fun k hk=>by injection hk with hk;exact hk.symm)
 have hc9:Chg (fun j=>j=b∨j=m) w w9:=(((HV.out.2.mono (X':=fun j=>j=b∨j=m) (fun j e => .inl (.inl e))).trans (Chg.of (X:=fun _=>False) HQ.out.1) (fun j e=>e.elim))).trans hgm (fun j e => .inl (.inr e))
 have HE:=Lib.hid (show Post (.returned (.tuple #[])) w9 by
  rw [← hPost]
  exact ⟨rfl, .node b m (delS L s.id) k,take_here HI.out.1 HI.out.2.1 HI.out.2.2.1 HI.out.2.2.2.1 HI.out.2.2.2.2 ((HV.out.1.chg (X:=fun _=>False) (Chg.of HQ.out.1) (fun e=>e)).chg hgm hbm) hM9 hc9⟩)
 clear hM9 hg9 hc9 hgm
 go_wp2_with fail
 exact bodyPost_ret (results_none rfl _ _ _) rfl HE.out
def NtakOk (s:Sh) (H HX HY:Int) (t:CT):Prop:=∀ (l x y:Int) (z:Nat) (w:World),t.In w z l x y→t.At l x y→t.Sep→s ∈ t.sh→t.sh.length≤900000→Calls Tryz.prog 103 #[.pointer t.ptr, .agg #[.int .i64 H, .int .i64 HX, .int .i64 HY], .int .i64 s.id] w (NtakPost z l x y t s w)
set_option maxHeartbeats 16000000 in
theorem ntake_down (s:Sh) (H HX HY:Int) (hHX:s.a / sd H=HX) (hHY:s.b / sd H=HY) (hid:wf64 s.id) (b m n:Nat) (L:List Sh) (k:Fin 4→CT) (ih:∀ j,NtakOk s H HX HY (k j)) (l x y:Int) (z:Nat) (w:World) (hl:H≠l) (hH:hlS s=H) (hin:(CT.node b m L k).In w z l x y) (hat:(CT.node b m L k).At l x y) (hsep:(CT.node b m L k).Sep) (hs:s ∈ (CT.node b m L k).sh) (hn:(CT.node b m L k).sh.length=n+1) (hlen:n+1≤900000):
  Calls Tryz.prog 103 #[.pointer (some ⟨b,0,none⟩), .agg #[.int .i64 H, .int .i64 HX, .int .i64 HY], .int .i64 s.id] w (NtakPost z l x y (.node b m L k) s w):=by
 have hun:=at_un _ _ _ _ hat s hs
 have hlH:l < H:=by have:=hun.2.1;omega
 have hEQ:=fun (W:World)=>eql_cell l x y H HX HY W
 rw [show eqC l x y H HX HY=false from by
  cases hq:eqC l x y H HX HY with
  | false=>rfl
  | true=>have:=(eqC_iff.1 hq).1;omega] at hEQ
 have hl0:=hat.1.1
 have hH16:H≤16:=by have:=hlS_rng s;omega
 have pw:=fun (Y:World)=>way_any s l x y Y hun.1 hl0 (by omega)
 rw [hH,hHX,hHY] at pw
 have hskj:=at_kid hat hs (by omega)
 obtain ⟨j,hj⟩:∃ j,kidJ l s.a s.b=j:=⟨_,rfl⟩
 rw [hj] at pw hskj
 obtain ⟨jv,hjv⟩:∃ jv,j.val=jv:=⟨_,rfl⟩
 have hj4:jv < 4:=by have:=j.isLt;omega
 rw [hjv] at pw
 have PW:=Lib.hid pw
 have hlen':(k j).sh.length≤n+1:=by
  have h9:(k j).sh.length≤(CT.node b m L k).sh.length:=by
   rw [sh_node,List.length_append]
   unfold kidsS
   simp only [List.length_append]
   match j with
   | 0|1|2|3=>omega
  omega
 cases hkj:k j with
 | nil=>rw [hkj] at hskj;cases hskj
 | node b' m' L' k'=>
  have hCA:=hin.1
  rw [hn] at hCA
  have hbl:=hCA.1
  have hml:=hin.2.1.lt
  have n0:w.cell? ⟨b,0,none⟩=some (.int .i64 l):=(hCA.2 0 (by decide)).1
  have n1:w.cell? ⟨b,1,none⟩=some (.int .i64 x):=(hCA.2 1 (by decide)).1
  have n2:w.cell? ⟨b,2,none⟩=some (.int .i64 y):=(hCA.2 2 (by decide)).1
  have n7:w.cell? ⟨b,7,none⟩=some (.int .i64 ((n:Int)+1)):=(hCA.2 7 (by decide)).1
  have n8:w.cell? ⟨b,8,none⟩=some (.map (some m)):=(hCA.2 8 (by decide)).1
  have f7:w.frozen? ⟨b,7,none⟩=false:=(hCA.2 7 (by decide)).2
  have hbm:=hsep.1
  have hcv:=hCA.set (j:=7) (by decide) (.int .i64 (n:Nat))
  rw [ctF_many_set] at hcv
  have hcv:=hcv.keep ((Below.refl _ _).alloc (Nat.le_refl _) (.cells #[.int .i64 H, .int .i64 HX, .int .i64 HY] 83))
  have hcg:Chg (fun j=>j=b) w ((w.setCell ⟨b,7,none⟩ (.int .i64 (n:Int))).alloc (.cells #[.int .i64 H, .int .i64 HX, .int .i64 HY] 83)):=((Chg.refl (X:=fun j=>j=b)).set (p:=⟨b,7,none⟩) (.inl rfl) _).alloc _
  have hkc:((w.setCell ⟨b,7,none⟩ (.int .i64 (n:Int))).alloc (.cells #[.int .i64 H, .int .i64 HX, .int .i64 HY] 83)).cell? ⟨b,3+jv,none⟩=some (.pointer (some ⟨b',0,none⟩)):=by
   have h9:=(hcv.2 (3+j.val) (by have:=j.isLt;omega)).1
   rw [ctF_kid,hjv,hkj] at h9
   exact h9
  have hkf:((w.setCell ⟨b,7,none⟩ (.int .i64 (n:Int))).alloc (.cells #[.int .i64 H, .int .i64 HX, .int .i64 HY] 83)).frozen? ⟨b,3+jv,none⟩=false:=(hcv.2 (3+jv) (by omega)).2
  have HV:=Lib.hid (And.intro hcv (And.intro hcg (And.intro hkc hkf)))
  have HI:=Lib.hid (show (CT.node b m L k).In w z l x y∧(CT.node b m L k).At l x y∧(CT.node b m L k).Sep∧j.val=jv∧(CT.node b m L k).sh.length=n+1∧k j = .node b' m' L' k' from ⟨hin,hat,hsep,hjv,hn,hkj⟩)
  have hb'k:(k j).Bl b':=by rw [hkj];exact .inl rfl
  have hb'b:b'≠b:=(hsep.2.1 j b' hb'k).1
  have hlt':b' < w.heap.size:=in_lt _ _ _ _ (hin.2.2 j) b' hb'k
  have PP:=Lib.hid (fun (Y:World) (hY:Chg (fun j=>j=b) w Y)=>ih j (l+1) (kx x j) (ky y j) z Y (in_chg hY _ _ _ _ (hin.2.2 j) (fun c hc=>(hsep.2.1 j c hc).1)) (hat.2.2 j) (hsep.2.2.2 j) hskj (by omega))
  rw [show (k j).ptr=some ⟨b',0,none⟩ by rw [hkj];rfl] at PP
  have hen:=eql_node
  have hnob:∀ c,(k j).Bl c→c≠b∧c < w.heap.size:=fun c hc=>⟨(hsep.2.1 j c hc).1,in_lt _ _ _ _ (hin.2.2 j) c hc⟩
  have HB:=Lib.hid hnob
  generalize hPost:NtakPost z l x y (.node b m L k) s w=Post
  clear hcv hcg hin hat hsep hun hH hHX hHY hCA hn hkc hkf hj hjv pw hskj hlen' ih hkj hb'k hs hnob hl
  go_enter Tryz.func103,Tryz.ntmps103
  go_wp2_with fail
  have g0:((w.setCell ⟨b,7,none⟩ (.int .i64 (n:Int))).alloc (.cells #[.int .i64 H, .int .i64 HX, .int .i64 HY] 83)).cell? ⟨w.heap.size,0,none⟩=some (.int .i64 H):=by go_simp
  have g1:((w.setCell ⟨b,7,none⟩ (.int .i64 (n:Int))).alloc (.cells #[.int .i64 H, .int .i64 HX, .int .i64 HY] 83)).cell? ⟨w.heap.size,1,none⟩=some (.int .i64 HX):=by go_simp
  have g2:((w.setCell ⟨b,7,none⟩ (.int .i64 (n:Int))).alloc (.cells #[.int .i64 H, .int .i64 HX, .int .i64 HY] 83)).cell? ⟨w.heap.size,2,none⟩=some (.int .i64 HY):=by go_simp
  have vs:((w.setCell ⟨b,7,none⟩ (.int .i64 (n:Int))).alloc (.cells #[.int .i64 H, .int .i64 HX, .int .i64 HY] 83)).heap.size=w.heap.size+1:=by simp
  have m0:((w.setCell ⟨b,7,none⟩ (.int .i64 (n:Int))).alloc (.cells #[.int .i64 H, .int .i64 HX, .int .i64 HY] 83)).cell? ⟨b,0,none⟩=some (.int .i64 l):=by go_simp
  have m1:((w.setCell ⟨b,7,none⟩ (.int .i64 (n:Int))).alloc (.cells #[.int .i64 H, .int .i64 HX, .int .i64 HY] 83)).cell? ⟨b,1,none⟩=some (.int .i64 x):=by go_simp
  have m2:((w.setCell ⟨b,7,none⟩ (.int .i64 (n:Int))).alloc (.cells #[.int .i64 H, .int .i64 HX, .int .i64 HY] 83)).cell? ⟨b,2,none⟩=some (.int .i64 y):=by go_simp
  have mk:=HV.out.2.2.1
  generalize ((w.setCell ⟨b,7,none⟩ (.int .i64 (n:Int))).alloc (.cells #[.int .i64 H, .int .i64 HX, .int .i64 HY] 83))=V at g0 g1 g2 vs m0 m1 m2 mk HV ⊢
  clear n0 n1 n2 n7 n8 f7
  (refine wp_region_later (V.heap.size) (by kernel_rfl) (by kernel_rfl) (by go_size) ?_;(repeat (go_big_quiet_step (fail)));refine wpQuiet_nil ?_;intro Xq hlXq hmXq)
  go_wp2_with fail
  (refine wp_region_later (V.heap.size) (by kernel_rfl) (by kernel_rfl) (by go_size) ?_;(repeat (go_big_quiet_step ((first|(go_at_call 104;exact Later.call _ (Nat.le_trans (by go_size) (Later.is _).size) (PW.out _))))));refine wpQuiet_nil ?_;intro Xr hlXr hmXr)
  go_wp2_with fail
  (refine wp_region_later_tail 8 (V.heap.size) (by kernel_rfl) (by kernel_rfl) (by go_size) ?_;simp only [List.take_succ_cons,List.take_zero,List.drop_succ_cons,List.drop_zero];(repeat (go_big_quiet_step (fail)));refine wpQuiet_nil ?_;intro Xs hlXs hmXs)
  have hbs:Below V.heap.size V Xs.w:=q9l
  go_wp2_with fail
  go_at_call 103
  have hcs:Chg (fun j=>j=b) w Xs.w:=HV.out.2.1.trans (Chg.of (X:=fun j=>j=b) hbs) (fun j e => .inl e)
  refine (PP.out _ hcs).mono ?_
  rintro e w9 ⟨rfl,t',hp⟩
  have hs9:=hp.chg.size
  have hss:=hcs.size
  have hbn9:¬ (k j).Bl b:=fun e=>(HB.out b e).1 rfl
  have hca9:=(HV.out.1.chg (X:=fun _=>False) (Chg.of hbs) (fun e=>e)).chg hp.chg hbn9
  have k9:w9.cell? ⟨b,3+jv,none⟩=some (.pointer (some ⟨b',0,none⟩)):=by
   have h9:=(hca9.2 (3+j.val) (by have:=j.isLt;omega)).1
   rw [ctF_kid,HI.out.2.2.2.1,HI.out.2.2.2.2.2] at h9
   exact h9
  have z9:w9.frozen? ⟨b,3+jv,none⟩=false:=(hca9.2 (3+jv) (by omega)).2
  have hpt:t'.ptr=some ⟨b',0,none⟩:=by rw [hp.ptr,HI.out.2.2.2.2.2];rfl
  obtain ⟨m2',L2,k2,ht'⟩:=ptr_node hpt
  have c9:w9.cell? ⟨b',7,none⟩=some (.int .i64 ((t'.sh.length:Nat):Int)):=by
   have h9:=hp.inn
   rw [ht'] at h9 ⊢
   exact (h9.1.2 7 (by decide)).1
  have hlen9:t'.sh.length≤1000000:=by
   have h9:=hp.shs.length_eq
   have h8:(k j).sh.length≤(CT.node b m L k).sh.length:=by
    rw [sh_node,List.length_append]
    unfold kidsS
    simp only [List.length_append]
    match j with
    | 0|1|2|3=>omega
   rw [HI.out.2.2.2.2.1] at h8
   rw [List.length_cons] at h9
   omega
  have hlt9:b' < w9.heap.size:=by omega
  have hblt9:b < w9.heap.size:=by omega
  cases h0:t'.sh.length with
  | zero=>
   rw [h0] at c9
   have c9:w9.cell? ⟨b',7,none⟩=some (.int .i64 0):=c9
   have HE:=Lib.hid (show Post (.returned (.tuple #[])) (w9.setCell ⟨b,3+jv,none⟩ (.pointer none)) by
    rw [← hPost]
    refine ⟨rfl, .node b m L (updC k j .nil),take_up HI.out.1 HI.out.2.1 HI.out.2.2.1 HI.out.2.2.2.2.1 hcs hp ((Chg.refl (X:=fun i=>i=b) (w:=w9)).set (p:=⟨b,3+jv,none⟩) (.inl rfl) (.pointer none)) ?_ (.inr ⟨rfl,List.length_eq_zero_iff.1 h0⟩)⟩
    have h9:=hca9.set (j:=3+j.val) (by have:=j.isLt;omega) (.pointer CT.nil.ptr)
    rw [ctF_kid_set,HI.out.2.2.2.1] at h9
    exact h9)
   clear hp hcs hbs hca9 hpt ht' h0 hbn9 hlen9
   go_wp2_with fail
   exact bodyPost_end (v := .tuple #[]) (by first|rfl|kernel_rfl) rfl HE.out
  | succ n9=>
   rw [h0] at c9 hlen9
   have hd9:((((n9+1:Nat):Int)) == 0)=false:=by simp;omega
   have HE:=Lib.hid (show Post (.returned (.tuple #[])) w9 by
    rw [← hPost]
    refine ⟨rfl, .node b m L (updC k j t'),take_up HI.out.1 HI.out.2.1 HI.out.2.2.1 HI.out.2.2.2.2.1 hcs hp Chg.refl ?_ (.inl rfl)⟩
    rw [ctF_congr (k':=k) (fun i=>by
     by_cases e:i=j
     ·subst e;rw [updC_same];exact hp.ptr
     ·rw [updC_other e])]
    exact hca9)
   clear hp hcs hbs hca9 hpt ht' h0 hbn9
   go_wp2_with fail
   exact bodyPost_end (v := .tuple #[]) (by first|rfl|kernel_rfl) rfl HE.out
theorem ntake_any (s:Sh) (H HX HY:Int) (hH:hlS s=H) (hHX:s.a / sd H=HX) (hHY:s.b / sd H=HY) (hid:wf64 s.id):∀ t,NtakOk s H HX HY t
 | .nil=>fun l x y z w _ _ _ hs=>by cases hs
 | .node b m L k=>fun l x y z w hin hat hsep hs hlen=>by
  obtain ⟨n,hn⟩:∃ n,(CT.node b m L k).sh.length=n+1:=by
   rcases Nat.eq_zero_or_pos (CT.node b m L k).sh.length with h0|h0
   ·rw [List.length_eq_zero_iff.1 h0] at hs;cases hs
   ·exact ⟨_,(Nat.succ_pred_eq_of_pos h0).symm⟩
  by_cases hl:H=l
  ·exact ntake_here s H HX HY hHX hHY hid b m n L k l x y z w hl hH hin hat hsep hs hn (by omega)
  ·exact ntake_down s H HX HY hHX hHY hid b m n L k (fun j=>ntake_any s H HX HY hH hHX hHY hid (k j)) l x y z w hl hH hin hat hsep hs hn (by omega)
end Go.Proofs.YthlijfligikciaaGreat
