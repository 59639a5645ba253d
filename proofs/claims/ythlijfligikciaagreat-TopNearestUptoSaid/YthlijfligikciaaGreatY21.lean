/- A part of one proof: CqC. No condition. -/
import Derived.Test.YthlijfligikciaaGreatY20
namespace Go.Proofs.YthlijfligikciaaGreat
open Go.RowKit Go.Maps
set_option linter.unusedSimpArgs false
set_option linter.unusedVariables false
set_option maxRecDepth 2000
theorem updC_self {k:Fin 4→CT} {j:Fin 4}:updC k j (k j)=k:=by
 funext m
 by_cases h:m=j
 ·subst h;simp [updC]
 ·simp [updC,h]
theorem eqC_iff {a b c a' b' c':Int}:eqC a b c a' b' c'=true↔a=a'∧b=b'∧c=c':=by simp [eqC]
theorem ctF_kid {l x y:Int} {k:Fin 4→CT} {n m:Nat} (j:Fin 4):ctF l x y k n m (3+j.val) = .pointer (k j).ptr:=by
 match j with
 | 0|1|2|3=>rfl
theorem ctF_kid_set {l x y:Int} {k:Fin 4→CT} {n m:Nat} (j:Fin 4) (u:CT):(fun i=>if i=3+j.val then .pointer u.ptr else ctF l x y k n m i)=ctF l x y (updC k j u) n m:=by
 have ne:∀ i:Fin 4,i≠j→(updC k j u i).ptr=(k i).ptr:=fun i h=>by rw [updC_other h]
 have same:(updC k j u j).ptr=u.ptr:=by rw [updC_same]
 funext i
 match j,ne,same with
 | 0,ne,same=>simp only [ctF];rw [same,ne 1 (by decide),ne 2 (by decide),ne 3 (by decide)];match i with|0|1|2|3|4|5|6|7|8=>rfl|n+9=>rfl
 | 1,ne,same=>simp only [ctF];rw [same,ne 0 (by decide),ne 2 (by decide),ne 3 (by decide)];match i with|0|1|2|3|4|5|6|7|8=>rfl|n+9=>rfl
 | 2,ne,same=>simp only [ctF];rw [same,ne 0 (by decide),ne 1 (by decide),ne 3 (by decide)];match i with|0|1|2|3|4|5|6|7|8=>rfl|n+9=>rfl
 | 3,ne,same=>simp only [ctF];rw [same,ne 0 (by decide),ne 1 (by decide),ne 2 (by decide)];match i with|0|1|2|3|4|5|6|7|8=>rfl|n+9=>rfl
theorem ctF_many_set {l x y:Int} {k:Fin 4→CT} {n n' m:Nat}:(fun i=>if i=7 then .int .i64 (n':Nat) else ctF l x y k n m i)=ctF l x y k n' m:=by
 funext i
 match i with|0|1|2|3|4|5|6|7|8=>rfl|n+9=>rfl
theorem eql_node (q:Nat) (w:World):(binOp .eql 121 (.pointer (some ⟨q,0,none⟩)) (.pointer none)).run Tryz.prog w = .ok (.bool false) w:=by kernel_rfl
theorem eql_node0 (w:World):(binOp .eql 121 (.pointer none) (.pointer none)).run Tryz.prog w = .ok (.bool true) w:=by kernel_rfl
def NputPost (z:Nat) (l x y:Int) (t:CT) (s:Sh) (w:World) (e:Ending) (w':World):Prop:=e = .returned (.tuple #[])∧∃ t',PutC w w' z l x y t t' s
set_option maxHeartbeats 16000000 in
theorem nput_here (s:Sh) (H HX HY:Int) (hH:hlS s=H) (hHX:s.a / sd H=HX) (hHY:s.b / sd H=HY) (hok:okS s=true) (hid:wf64 s.id) (b m:Nat) (L:List Sh) (k:Fin 4→CT) (l x y:Int) (z:Nat) (w:World) (hl:H=l) (hin:(CT.node b m L k).In w z l x y) (hat:(CT.node b m L k).At l x y) (hsep:(CT.node b m L k).Sep) (hun:unS l x y s) (hnew:∀ u ∈ (CT.node b m L k).sh,u.id≠s.id) (hz:z < 1000000) (hlen:(CT.node b m L k).sh.length≤1000000):
  Calls Tryz.prog 63 #[.pointer (some ⟨b,0,none⟩), .agg #[.int .i64 H, .int .i64 HX, .int .i64 HY], .agg #[.int .i64 s.id, .int .i64 s.a, .int .i64 s.b, .int .i64 s.c, .int .i64 s.d, .int .i64 s.label]] w (NputPost z l x y (.node b m L k) s w):=by
 have hxy:x=HX∧y=HY:=⟨by rw [← hHX,hl];exact hun.2.2.1.symm,by rw [← hHY,hl];exact hun.2.2.2.symm⟩
 have hEQ:=fun (W:World)=>eql_cell l x y H HX HY W
 rw [show eqC l x y H HX HY=true from eqC_iff.2 ⟨hl.symm,hxy.1,hxy.2⟩] at hEQ
 obtain ⟨n,hn⟩:∃ n,(CT.node b m L k).sh.length=n:=⟨_,rfl⟩
 have hCA:=hin.1
 rw [hn] at hCA hlen
 have hbl:=hCA.1
 have hml:=hin.2.1.lt
 have n0:w.cell? ⟨b,0,none⟩=some (.int .i64 l):=(hCA.2 0 (by decide)).1
 have n1:w.cell? ⟨b,1,none⟩=some (.int .i64 x):=(hCA.2 1 (by decide)).1
 have n2:w.cell? ⟨b,2,none⟩=some (.int .i64 y):=(hCA.2 2 (by decide)).1
 have n7:w.cell? ⟨b,7,none⟩=some (.int .i64 (n:Nat)):=(hCA.2 7 (by decide)).1
 have n8:w.cell? ⟨b,8,none⟩=some (.map (some m)):=(hCA.2 8 (by decide)).1
 have f7:w.frozen? ⟨b,7,none⟩=false:=(hCA.2 7 (by decide)).2
 have HI:=Lib.hid (And.intro hin (And.intro hat (And.intro hsep (And.intro hun (And.intro hnew (And.intro (show hlS s=l by rw [hH,hl]) hn))))))
 have hbm:=hsep.1
 have hcv:=hCA.set (j:=7) (by decide) (.int .i64 ((n+1:Nat):Int))
 rw [ctF_many_set] at hcv
 have hcv:=(hcv.keep ((Below.refl _ _).alloc (Nat.le_refl _) (.cells #[.int .i64 H, .int .i64 HX, .int .i64 HY] 83))).keep ((Below.refl _ _).alloc (Nat.le_refl _) (.cells #[.int .i64 s.id, .int .i64 s.a, .int .i64 s.b, .int .i64 s.c, .int .i64 s.d, .int .i64 s.label] 75))
 have hcg:Chg (fun j=>j=b) w (((w.setCell ⟨b,7,none⟩ (.int .i64 ((n+1:Nat):Int))).alloc (.cells #[.int .i64 H, .int .i64 HX, .int .i64 HY] 83)).alloc (.cells #[.int .i64 s.id, .int .i64 s.a, .int .i64 s.b, .int .i64 s.c, .int .i64 s.d, .int .i64 s.label] 75)):=(((Chg.refl (X:=fun j=>j=b)).set (p:=⟨b,7,none⟩) (.inl rfl) _).alloc _).alloc _
 rw [show ((n+1:Nat):Int)=(n:Int)+1 by omega] at hcv hcg
 have HV:=Lib.hid (And.intro hcv hcg)
 generalize hPost:NputPost z l x y (.node b m L k) s w=Post
 clear hcv hcg hin hat hsep hun hnew hl hxy hH hHX hHY hok hCA hn
 go_enter Tryz.func63,Tryz.ntmps63
 go_wp2_with fail
 have g0:(((w.setCell ⟨b,7,none⟩ (.int .i64 ((n:Int)+1))).alloc (.cells #[.int .i64 H, .int .i64 HX, .int .i64 HY] 83)).alloc (.cells #[.int .i64 s.id, .int .i64 s.a, .int .i64 s.b, .int .i64 s.c, .int .i64 s.d, .int .i64 s.label] 75)).cell? ⟨w.heap.size,0,none⟩=some (.int .i64 H):=by go_simp
 have g1:(((w.setCell ⟨b,7,none⟩ (.int .i64 ((n:Int)+1))).alloc (.cells #[.int .i64 H, .int .i64 HX, .int .i64 HY] 83)).alloc (.cells #[.int .i64 s.id, .int .i64 s.a, .int .i64 s.b, .int .i64 s.c, .int .i64 s.d, .int .i64 s.label] 75)).cell? ⟨w.heap.size,1,none⟩=some (.int .i64 HX):=by go_simp
 have g2:(((w.setCell ⟨b,7,none⟩ (.int .i64 ((n:Int)+1))).alloc (.cells #[.int .i64 H, .int .i64 HX, .int .i64 HY] 83)).alloc (.cells #[.int .i64 s.id, .int .i64 s.a, .int .i64 s.b, .int .i64 s.c, .int .i64 s.d, .int .i64 s.label] 75)).cell? ⟨w.heap.size,2,none⟩=some (.int .i64 HY):=by go_simp
 have s0:(((w.setCell ⟨b,7,none⟩ (.int .i64 ((n:Int)+1))).alloc (.cells #[.int .i64 H, .int .i64 HX, .int .i64 HY] 83)).alloc (.cells #[.int .i64 s.id, .int .i64 s.a, .int .i64 s.b, .int .i64 s.c, .int .i64 s.d, .int .i64 s.label] 75)).cell? ⟨w.heap.size+1,0,none⟩=some (.int .i64 s.id):=by go_simp
 have s1:(((w.setCell ⟨b,7,none⟩ (.int .i64 ((n:Int)+1))).alloc (.cells #[.int .i64 H, .int .i64 HX, .int .i64 HY] 83)).alloc (.cells #[.int .i64 s.id, .int .i64 s.a, .int .i64 s.b, .int .i64 s.c, .int .i64 s.d, .int .i64 s.label] 75)).cell? ⟨w.heap.size+1,1,none⟩=some (.int .i64 s.a):=by go_simp
 have s2:(((w.setCell ⟨b,7,none⟩ (.int .i64 ((n:Int)+1))).alloc (.cells #[.int .i64 H, .int .i64 HX, .int .i64 HY] 83)).alloc (.cells #[.int .i64 s.id, .int .i64 s.a, .int .i64 s.b, .int .i64 s.c, .int .i64 s.d, .int .i64 s.label] 75)).cell? ⟨w.heap.size+1,2,none⟩=some (.int .i64 s.b):=by go_simp
 have s3:(((w.setCell ⟨b,7,none⟩ (.int .i64 ((n:Int)+1))).alloc (.cells #[.int .i64 H, .int .i64 HX, .int .i64 HY] 83)).alloc (.cells #[.int .i64 s.id, .int .i64 s.a, .int .i64 s.b, .int .i64 s.c, .int .i64 s.d, .int .i64 s.label] 75)).cell? ⟨w.heap.size+1,3,none⟩=some (.int .i64 s.c):=by go_simp
 have s4:(((w.setCell ⟨b,7,none⟩ (.int .i64 ((n:Int)+1))).alloc (.cells #[.int .i64 H, .int .i64 HX, .int .i64 HY] 83)).alloc (.cells #[.int .i64 s.id, .int .i64 s.a, .int .i64 s.b, .int .i64 s.c, .int .i64 s.d, .int .i64 s.label] 75)).cell? ⟨w.heap.size+1,4,none⟩=some (.int .i64 s.d):=by go_simp
 have s5:(((w.setCell ⟨b,7,none⟩ (.int .i64 ((n:Int)+1))).alloc (.cells #[.int .i64 H, .int .i64 HX, .int .i64 HY] 83)).alloc (.cells #[.int .i64 s.id, .int .i64 s.a, .int .i64 s.b, .int .i64 s.c, .int .i64 s.d, .int .i64 s.label] 75)).cell? ⟨w.heap.size+1,5,none⟩=some (.int .i64 s.label):=by go_simp
 have vs:(((w.setCell ⟨b,7,none⟩ (.int .i64 ((n:Int)+1))).alloc (.cells #[.int .i64 H, .int .i64 HX, .int .i64 HY] 83)).alloc (.cells #[.int .i64 s.id, .int .i64 s.a, .int .i64 s.b, .int .i64 s.c, .int .i64 s.d, .int .i64 s.label] 75)).heap.size=w.heap.size+2:=by simp
 have m0:(((w.setCell ⟨b,7,none⟩ (.int .i64 ((n:Int)+1))).alloc (.cells #[.int .i64 H, .int .i64 HX, .int .i64 HY] 83)).alloc (.cells #[.int .i64 s.id, .int .i64 s.a, .int .i64 s.b, .int .i64 s.c, .int .i64 s.d, .int .i64 s.label] 75)).cell? ⟨b,0,none⟩=some (.int .i64 l):=by go_simp
 have m1:(((w.setCell ⟨b,7,none⟩ (.int .i64 ((n:Int)+1))).alloc (.cells #[.int .i64 H, .int .i64 HX, .int .i64 HY] 83)).alloc (.cells #[.int .i64 s.id, .int .i64 s.a, .int .i64 s.b, .int .i64 s.c, .int .i64 s.d, .int .i64 s.label] 75)).cell? ⟨b,1,none⟩=some (.int .i64 x):=by go_simp
 have m2:(((w.setCell ⟨b,7,none⟩ (.int .i64 ((n:Int)+1))).alloc (.cells #[.int .i64 H, .int .i64 HX, .int .i64 HY] 83)).alloc (.cells #[.int .i64 s.id, .int .i64 s.a, .int .i64 s.b, .int .i64 s.c, .int .i64 s.d, .int .i64 s.label] 75)).cell? ⟨b,2,none⟩=some (.int .i64 y):=by go_simp
 have m8:(((w.setCell ⟨b,7,none⟩ (.int .i64 ((n:Int)+1))).alloc (.cells #[.int .i64 H, .int .i64 HX, .int .i64 HY] 83)).alloc (.cells #[.int .i64 s.id, .int .i64 s.a, .int .i64 s.b, .int .i64 s.c, .int .i64 s.d, .int .i64 s.label] 75)).cell? ⟨b,8,none⟩=some (.map (some m)):=by go_simp
 generalize (((w.setCell ⟨b,7,none⟩ (.int .i64 ((n:Int)+1))).alloc (.cells #[.int .i64 H, .int .i64 HX, .int .i64 HY] 83)).alloc (.cells #[.int .i64 s.id, .int .i64 s.a, .int .i64 s.b, .int .i64 s.c, .int .i64 s.d, .int .i64 s.label] 75))=V at g0 g1 g2 s0 s1 s2 s3 s4 s5 vs m0 m1 m2 m8 HV ⊢
 clear n0 n1 n2 n7 n8 f7
 (refine wp_region_later (V.heap.size) (by kernel_rfl) (by kernel_rfl) (by go_size) ?_;(repeat (go_big_quiet_step (fail)));refine wpQuiet_nil ?_;intro Xq hlXq hmXq)
 go_wp2_with fail
 (refine wp_region_later_tail 7 (V.heap.size) (by kernel_rfl) (by kernel_rfl) (by go_size) ?_;simp only [List.take_succ_cons,List.take_zero,List.drop_succ_cons,List.drop_zero];(repeat (go_big_quiet_step (fail)));refine wpQuiet_nil ?_;intro Xr hlXr hmXr)
 have hbr:Below V.heap.size V Xr.w:=q9l
 have hmr:Xr.w.heap[m]? = w.heap[m]? := (hbr.block m (by omega)).trans (HV.out.2.block m hml (fun e=>hbm e.symm))
 obtain ⟨w9,hput,hM9,hg9⟩:=(HI.out.1.2.1.m1.same hmr).put (by omega) (mt:=123) Tryz.underlying123 hid (.agg #[.int .i64 s.id, .int .i64 s.a, .int .i64 s.b, .int .i64 s.c, .int .i64 s.d, .int .i64 s.label])
 have hc9:Chg (fun j=>j=b∨j=m) w w9:=(((HV.out.2.mono (X':=fun j=>j=b∨j=m) (fun j e => .inl (.inl e))).trans (Chg.of (X:=fun _=>False) hbr) (fun j e=>e.elim))).trans (Chg.ofGrown (X:=fun j=>j=m) hg9 (fun k hk=>by injection hk with hk;exact hk.symm)) (fun j e => .inl (.inr e))
 have HE:=Lib.hid (show Post (.returned (.tuple #[])) w9 by
  rw [← hPost]
  refine ⟨rfl, .node b m (s :: L) k,put_here HI.out.1 HI.out.2.1 HI.out.2.2.1 HI.out.2.2.2.1 HI.out.2.2.2.2.2.1 hid HI.out.2.2.2.2.1 ?_ hM9 hc9⟩
  rw [HI.out.2.2.2.2.2.2]
  exact (HV.out.1.chg (X:=fun _=>False) (Chg.of hbr) (fun e=>e)).chg (Chg.ofGrown (X:=fun j=>j=m) hg9 (fun k hk=>by injection hk with hk;exact hk.symm)) hbm)
 clear hM9 hg9 hc9 hbr hmr
 go_wp2_with fail
 exact bodyPost_ret (results_none rfl _ _ _) rfl HE.out
def NputOk (s:Sh) (H HX HY:Int) (f:Nat):Prop:=∀ (b m:Nat) (L:List Sh) (k:Fin 4→CT) (l x y:Int) (z:Nat) (w:World),(H - l).toNat≤f→(CT.node b m L k).In w z l x y→(CT.node b m L k).At l x y→(CT.node b m L k).Sep→unS l x y s→(∀ u ∈ (CT.node b m L k).sh,u.id≠s.id)→z < 1000000→(CT.node b m L k).sh.length≤1000000→
  Calls Tryz.prog 63 #[.pointer (some ⟨b,0,none⟩), .agg #[.int .i64 H, .int .i64 HX, .int .i64 HY], .agg #[.int .i64 s.id, .int .i64 s.a, .int .i64 s.b, .int .i64 s.c, .int .i64 s.d, .int .i64 s.label]] w (NputPost z l x y (.node b m L k) s w)
set_option maxHeartbeats 16000000 in
theorem nput_down (s:Sh) (H HX HY:Int) (hH:hlS s=H) (hHX:s.a / sd H=HX) (hHY:s.b / sd H=HY) (hok:okS s=true) (hid:wf64 s.id) (f:Nat) (ih:NputOk s H HX HY f) (b m:Nat) (L:List Sh) (k:Fin 4→CT) (l x y:Int) (z:Nat) (w:World) (hl:l < H) (hf:(H - l).toNat≤f+1) (hin:(CT.node b m L k).In w z l x y) (hat:(CT.node b m L k).At l x y) (hsep:(CT.node b m L k).Sep) (hun:unS l x y s) (hnew:∀ u ∈ (CT.node b m L k).sh,u.id≠s.id) (hz:z < 1000000) (hlen:(CT.node b m L k).sh.length≤1000000):
  Calls Tryz.prog 63 #[.pointer (some ⟨b,0,none⟩), .agg #[.int .i64 H, .int .i64 HX, .int .i64 HY], .agg #[.int .i64 s.id, .int .i64 s.a, .int .i64 s.b, .int .i64 s.c, .int .i64 s.d, .int .i64 s.label]] w (NputPost z l x y (.node b m L k) s w):=by
 have hEQ:=fun (W:World)=>eql_cell l x y H HX HY W
 rw [show eqC l x y H HX HY=false from by
  cases hq:eqC l x y H HX HY with
  | false=>rfl
  | true=>have:=(eqC_iff.1 hq).1;omega] at hEQ
 have hl0:=hat.1.1
 have hH16:H≤16:=by have:=hlS_rng s;omega
 have pw:=fun (Y:World)=>way_any s l x y Y hok hl0 (by omega)
 rw [hH,hHX,hHY] at pw
 have hukid:=un_kid hl0 hun (by omega)
 obtain ⟨j,hj⟩:∃ j,kidJ l s.a s.b=j:=⟨_,rfl⟩
 rw [hj] at pw hukid
 obtain ⟨jv,hjv⟩:∃ jv,j.val=jv:=⟨_,rfl⟩
 have hj4:jv < 4:=by have:=j.isLt;omega
 rw [hjv] at pw
 have PW:=Lib.hid pw
 obtain ⟨n,hn⟩:∃ n,(CT.node b m L k).sh.length=n:=⟨_,rfl⟩
 have hCA:=hin.1
 rw [hn] at hCA hlen
 have hbl:=hCA.1
 have hml:=hin.2.1.lt
 have n0:w.cell? ⟨b,0,none⟩=some (.int .i64 l):=(hCA.2 0 (by decide)).1
 have n1:w.cell? ⟨b,1,none⟩=some (.int .i64 x):=(hCA.2 1 (by decide)).1
 have n2:w.cell? ⟨b,2,none⟩=some (.int .i64 y):=(hCA.2 2 (by decide)).1
 have n7:w.cell? ⟨b,7,none⟩=some (.int .i64 (n:Nat)):=(hCA.2 7 (by decide)).1
 have n8:w.cell? ⟨b,8,none⟩=some (.map (some m)):=(hCA.2 8 (by decide)).1
 have f7:w.frozen? ⟨b,7,none⟩=false:=(hCA.2 7 (by decide)).2
 have HI:=Lib.hid (show (CT.node b m L k).In w z l x y∧(CT.node b m L k).At l x y∧(CT.node b m L k).Sep∧(∀ u ∈ (CT.node b m L k).sh,u.id≠s.id)∧j.val=jv∧(CT.node b m L k).sh.length=n from ⟨hin,hat,hsep,hnew,hjv,hn⟩)
 have hcv:=hCA.set (j:=7) (by decide) (.int .i64 ((n+1:Nat):Int))
 rw [ctF_many_set] at hcv
 have hcv:=(hcv.keep ((Below.refl _ _).alloc (Nat.le_refl _) (.cells #[.int .i64 H, .int .i64 HX, .int .i64 HY] 83))).keep ((Below.refl _ _).alloc (Nat.le_refl _) (.cells #[.int .i64 s.id, .int .i64 s.a, .int .i64 s.b, .int .i64 s.c, .int .i64 s.d, .int .i64 s.label] 75))
 have hcg:Chg (fun j=>j=b) w (((w.setCell ⟨b,7,none⟩ (.int .i64 ((n+1:Nat):Int))).alloc (.cells #[.int .i64 H, .int .i64 HX, .int .i64 HY] 83)).alloc (.cells #[.int .i64 s.id, .int .i64 s.a, .int .i64 s.b, .int .i64 s.c, .int .i64 s.d, .int .i64 s.label] 75)):=(((Chg.refl (X:=fun j=>j=b)).set (p:=⟨b,7,none⟩) (.inl rfl) _).alloc _).alloc _
 rw [show ((n+1:Nat):Int)=(n:Int)+1 by omega] at hcv hcg
 have hkc:(((w.setCell ⟨b,7,none⟩ (.int .i64 ((n:Int)+1))).alloc (.cells #[.int .i64 H, .int .i64 HX, .int .i64 HY] 83)).alloc (.cells #[.int .i64 s.id, .int .i64 s.a, .int .i64 s.b, .int .i64 s.c, .int .i64 s.d, .int .i64 s.label] 75)).cell? ⟨b,3+jv,none⟩=some (.pointer (k j).ptr):=by
  have h9:=(hcv.2 (3+j.val) (by have:=j.isLt;omega)).1
  rw [ctF_kid,hjv] at h9
  exact h9
 have hkf:(((w.setCell ⟨b,7,none⟩ (.int .i64 ((n:Int)+1))).alloc (.cells #[.int .i64 H, .int .i64 HX, .int .i64 HY] 83)).alloc (.cells #[.int .i64 s.id, .int .i64 s.a, .int .i64 s.b, .int .i64 s.c, .int .i64 s.d, .int .i64 s.label] 75)).frozen? ⟨b,3+jv,none⟩=false:=(hcv.2 (3+jv) (by omega)).2
 have HV:=Lib.hid (And.intro hcv (And.intro hcg (And.intro hkc hkf)))
 have IH:=Lib.hid ih
 generalize hPost:NputPost z l x y (.node b m L k) s w=Post
 cases hkj:k j with
 | node b' m' L' k'=>
  have hbk:(k j).Bl b':=by rw [hkj];exact .inl rfl
  rw [hkj,show (CT.node b' m' L' k').ptr=some ⟨b',0,none⟩ from rfl] at HV
  have hlt':b' < w.heap.size:=in_lt _ _ _ _ (hin.2.2 j) b' hbk
  have hlen':(CT.node b' m' L' k').sh.length≤1000000:=by
   have h9:(k j).sh.length≤(CT.node b m L k).sh.length:=by
    rw [sh_node,List.length_append]
    unfold kidsS
    simp only [List.length_append]
    match j with
    | 0|1|2|3=>omega
   rw [hkj] at h9
   omega
  have PP:=Lib.hid (fun (Y:World) (hY:Chg (fun j=>j=b) w Y)=>IH.out b' m' L' k' (l+1) (kx x j) (ky y j) z Y (by omega) (by
   have h9:=in_chg hY _ _ _ _ (hin.2.2 j) (fun c hc=>(hsep.2.1 j c hc).1)
   rw [hkj] at h9
   exact h9) (by have h9:=hat.2.2 j;rw [hkj] at h9;exact h9) (by have h9:=hsep.2.2.2 j;rw [hkj] at h9;exact h9) hukid (fun u hu=>hnew u (by rw [sh_node];exact List.mem_append_right _ (kidsS_mem.2 ⟨j,by rw [hkj];exact hu⟩))) hz hlen')
  have hen:=eql_node
  have HK:=Lib.hid hkj
  clear hcv hcg hin hat hsep hun hnew hH hHX hHY hok hCA hn hkc hkf hj hjv pw hukid hlen' ih IH hkj hbk
  go_enter Tryz.func63,Tryz.ntmps63
  go_wp2_with fail
  have g0:(((w.setCell ⟨b,7,none⟩ (.int .i64 ((n:Int)+1))).alloc (.cells #[.int .i64 H, .int .i64 HX, .int .i64 HY] 83)).alloc (.cells #[.int .i64 s.id, .int .i64 s.a, .int .i64 s.b, .int .i64 s.c, .int .i64 s.d, .int .i64 s.label] 75)).cell? ⟨w.heap.size,0,none⟩=some (.int .i64 H):=by go_simp
  have g1:(((w.setCell ⟨b,7,none⟩ (.int .i64 ((n:Int)+1))).alloc (.cells #[.int .i64 H, .int .i64 HX, .int .i64 HY] 83)).alloc (.cells #[.int .i64 s.id, .int .i64 s.a, .int .i64 s.b, .int .i64 s.c, .int .i64 s.d, .int .i64 s.label] 75)).cell? ⟨w.heap.size,1,none⟩=some (.int .i64 HX):=by go_simp
  have g2:(((w.setCell ⟨b,7,none⟩ (.int .i64 ((n:Int)+1))).alloc (.cells #[.int .i64 H, .int .i64 HX, .int .i64 HY] 83)).alloc (.cells #[.int .i64 s.id, .int .i64 s.a, .int .i64 s.b, .int .i64 s.c, .int .i64 s.d, .int .i64 s.label] 75)).cell? ⟨w.heap.size,2,none⟩=some (.int .i64 HY):=by go_simp
  have s0:(((w.setCell ⟨b,7,none⟩ (.int .i64 ((n:Int)+1))).alloc (.cells #[.int .i64 H, .int .i64 HX, .int .i64 HY] 83)).alloc (.cells #[.int .i64 s.id, .int .i64 s.a, .int .i64 s.b, .int .i64 s.c, .int .i64 s.d, .int .i64 s.label] 75)).cell? ⟨w.heap.size+1,0,none⟩=some (.int .i64 s.id):=by go_simp
  have s1:(((w.setCell ⟨b,7,none⟩ (.int .i64 ((n:Int)+1))).alloc (.cells #[.int .i64 H, .int .i64 HX, .int .i64 HY] 83)).alloc (.cells #[.int .i64 s.id, .int .i64 s.a, .int .i64 s.b, .int .i64 s.c, .int .i64 s.d, .int .i64 s.label] 75)).cell? ⟨w.heap.size+1,1,none⟩=some (.int .i64 s.a):=by go_simp
  have s2:(((w.setCell ⟨b,7,none⟩ (.int .i64 ((n:Int)+1))).alloc (.cells #[.int .i64 H, .int .i64 HX, .int .i64 HY] 83)).alloc (.cells #[.int .i64 s.id, .int .i64 s.a, .int .i64 s.b, .int .i64 s.c, .int .i64 s.d, .int .i64 s.label] 75)).cell? ⟨w.heap.size+1,2,none⟩=some (.int .i64 s.b):=by go_simp
  have s3:(((w.setCell ⟨b,7,none⟩ (.int .i64 ((n:Int)+1))).alloc (.cells #[.int .i64 H, .int .i64 HX, .int .i64 HY] 83)).alloc (.cells #[.int .i64 s.id, .int .i64 s.a, .int .i64 s.b, .int .i64 s.c, .int .i64 s.d, .int .i64 s.label] 75)).cell? ⟨w.heap.size+1,3,none⟩=some (.int .i64 s.c):=by go_simp
  have s4:(((w.setCell ⟨b,7,none⟩ (.int .i64 ((n:Int)+1))).alloc (.cells #[.int .i64 H, .int .i64 HX, .int .i64 HY] 83)).alloc (.cells #[.int .i64 s.id, .int .i64 s.a, .int .i64 s.b, .int .i64 s.c, .int .i64 s.d, .int .i64 s.label] 75)).cell? ⟨w.heap.size+1,4,none⟩=some (.int .i64 s.d):=by go_simp
  have s5:(((w.setCell ⟨b,7,none⟩ (.int .i64 ((n:Int)+1))).alloc (.cells #[.int .i64 H, .int .i64 HX, .int .i64 HY] 83)).alloc (.cells #[.int .i64 s.id, .int .i64 s.a, .int .i64 s.b, .int .i64 s.c, .int .i64 s.d, .int .i64 s.label] 75)).cell? ⟨w.heap.size+1,5,none⟩=some (.int .i64 s.label):=by go_simp
  have vs:(((w.setCell ⟨b,7,none⟩ (.int .i64 ((n:Int)+1))).alloc (.cells #[.int .i64 H, .int .i64 HX, .int .i64 HY] 83)).alloc (.cells #[.int .i64 s.id, .int .i64 s.a, .int .i64 s.b, .int .i64 s.c, .int .i64 s.d, .int .i64 s.label] 75)).heap.size=w.heap.size+2:=by simp
  have m0:(((w.setCell ⟨b,7,none⟩ (.int .i64 ((n:Int)+1))).alloc (.cells #[.int .i64 H, .int .i64 HX, .int .i64 HY] 83)).alloc (.cells #[.int .i64 s.id, .int .i64 s.a, .int .i64 s.b, .int .i64 s.c, .int .i64 s.d, .int .i64 s.label] 75)).cell? ⟨b,0,none⟩=some (.int .i64 l):=by go_simp
  have m1:(((w.setCell ⟨b,7,none⟩ (.int .i64 ((n:Int)+1))).alloc (.cells #[.int .i64 H, .int .i64 HX, .int .i64 HY] 83)).alloc (.cells #[.int .i64 s.id, .int .i64 s.a, .int .i64 s.b, .int .i64 s.c, .int .i64 s.d, .int .i64 s.label] 75)).cell? ⟨b,1,none⟩=some (.int .i64 x):=by go_simp
  have m2:(((w.setCell ⟨b,7,none⟩ (.int .i64 ((n:Int)+1))).alloc (.cells #[.int .i64 H, .int .i64 HX, .int .i64 HY] 83)).alloc (.cells #[.int .i64 s.id, .int .i64 s.a, .int .i64 s.b, .int .i64 s.c, .int .i64 s.d, .int .i64 s.label] 75)).cell? ⟨b,2,none⟩=some (.int .i64 y):=by go_simp
  have mk:=HV.out.2.2.1
  have mf:=HV.out.2.2.2
  generalize (((w.setCell ⟨b,7,none⟩ (.int .i64 ((n:Int)+1))).alloc (.cells #[.int .i64 H, .int .i64 HX, .int .i64 HY] 83)).alloc (.cells #[.int .i64 s.id, .int .i64 s.a, .int .i64 s.b, .int .i64 s.c, .int .i64 s.d, .int .i64 s.label] 75))=V at g0 g1 g2 s0 s1 s2 s3 s4 s5 vs m0 m1 m2 mk mf HV ⊢
  clear n0 n1 n2 n7 n8 f7
  (refine wp_region_later (V.heap.size) (by kernel_rfl) (by kernel_rfl) (by go_size) ?_;(repeat (go_big_quiet_step (fail)));refine wpQuiet_nil ?_;intro Xq hlXq hmXq)
  go_wp2_with fail
  (refine wp_region_later (V.heap.size) (by kernel_rfl) (by kernel_rfl) (by go_size) ?_;(repeat (go_big_quiet_step ((first|(go_at_call 104;exact Later.call _ (Nat.le_trans (by go_size) (Later.is _).size) (PW.out _))))));refine wpQuiet_nil ?_;intro Xr hlXr hmXr)
  go_wp2_with fail
  (refine wp_region_later_tail 8 (V.heap.size) (by kernel_rfl) (by kernel_rfl) (by go_size) ?_;simp only [List.take_succ_cons,List.take_zero,List.drop_succ_cons,List.drop_zero];(repeat (go_big_quiet_step (fail)));refine wpQuiet_nil ?_;intro Xs hlXs hmXs)
  have hbs:Below V.heap.size V Xs.w:=q9l
  go_wp2_with fail
  go_at_call 63
  have hcs:Chg (fun j=>j=b) w Xs.w:=HV.out.2.1.trans (Chg.of (X:=fun j=>j=b) hbs) (fun j e => .inl e)
  refine (PP.out _ hcs).mono ?_
  rintro e w9 ⟨rfl,t',hp⟩
  have HE:=Lib.hid (show Post (.returned (.tuple #[])) w9 by
   rw [← hPost]
   refine ⟨rfl, .node b m L (updC k j t'),put_upC HI.out.1 HI.out.2.1 HI.out.2.2.1 (fun c hc => .inl hc) rfl ?_ hcs (by rw [HK.out];exact hp)⟩
   rw [updC_self,HI.out.2.2.2.2.2]
   exact HV.out.1.chg (X:=fun _=>False) (Chg.of hbs) (fun e=>e))
  clear hp hcs hbs
  go_wp2_with fail
  exact bodyPost_end (v := .tuple #[]) (by first|rfl|kernel_rfl) rfl HE.out
 | nil=>
  rw [hkj,show CT.nil.ptr=none from rfl] at HV
  have pc:=fun (Y:World)=>child_any l x y (jv:Int) Y
  have hc0:=un_box hl0 hun
  rw [show childB l x y (jv:Int)=true from child_iff.2 ⟨hc0.1,by omega,by omega,by omega⟩,show 2*x+(jv:Int) % 2=kx x j by unfold kx;rw [hjv];omega,show 2*y+(jv:Int) / 2=ky y j by unfold ky;rw [hjv];omega] at pc
  simp only [sel,if_true] at pc
  obtain ⟨cx,hcx⟩:∃ c,kx x j=c:=⟨_,rfl⟩
  obtain ⟨cy,hcy⟩:∃ c,ky y j=c:=⟨_,rfl⟩
  rw [hcx,hcy] at pc hukid
  have PC:=Lib.hid pc
  have PP:=Lib.hid (fun (c cm:Nat) (hne:c≠cm) (Y:World) (hY:(CT.node c cm [] fun _ => .nil).In Y z (l+1) cx cy)=>IH.out c cm [] (fun _ => .nil) (l+1) cx cy z Y (by omega) hY ⟨⟨by omega,by omega⟩,fun s hs=>(by cases hs),fun _=>trivial⟩ ⟨hne,fun _ _ h=>h.elim,fun _ _ _ _ h=>h.elim,fun _=>trivial⟩ hukid (fun u hu=>by cases hu) hz (by simp [CT.sh]))
  have hen:=eql_node0
  have HK:=Lib.hid (And.intro hkj (And.intro hcx hcy))
  clear hcv hcg hin hat hsep hun hnew hH hHX hHY hok hCA hn hkc hkf hj hjv pw hukid ih IH hkj pc hc0 hcx hcy
  go_enter Tryz.func63,Tryz.ntmps63
  go_wp2_with fail
  have g0:(((w.setCell ⟨b,7,none⟩ (.int .i64 ((n:Int)+1))).alloc (.cells #[.int .i64 H, .int .i64 HX, .int .i64 HY] 83)).alloc (.cells #[.int .i64 s.id, .int .i64 s.a, .int .i64 s.b, .int .i64 s.c, .int .i64 s.d, .int .i64 s.label] 75)).cell? ⟨w.heap.size,0,none⟩=some (.int .i64 H):=by go_simp
  have g1:(((w.setCell ⟨b,7,none⟩ (.int .i64 ((n:Int)+1))).alloc (.cells #[.int .i64 H, .int .i64 HX, .int .i64 HY] 83)).alloc (.cells #[.int .i64 s.id, .int .i64 s.a, .int .i64 s.b, .int .i64 s.c, .int .i64 s.d, .int .i64 s.label] 75)).cell? ⟨w.heap.size,1,none⟩=some (.int .i64 HX):=by go_simp
  have g2:(((w.setCell ⟨b,7,none⟩ (.int .i64 ((n:Int)+1))).alloc (.cells #[.int .i64 H, .int .i64 HX, .int .i64 HY] 83)).alloc (.cells #[.int .i64 s.id, .int .i64 s.a, .int .i64 s.b, .int .i64 s.c, .int .i64 s.d, .int .i64 s.label] 75)).cell? ⟨w.heap.size,2,none⟩=some (.int .i64 HY):=by go_simp
  have s0:(((w.setCell ⟨b,7,none⟩ (.int .i64 ((n:Int)+1))).alloc (.cells #[.int .i64 H, .int .i64 HX, .int .i64 HY] 83)).alloc (.cells #[.int .i64 s.id, .int .i64 s.a, .int .i64 s.b, .int .i64 s.c, .int .i64 s.d, .int .i64 s.label] 75)).cell? ⟨w.heap.size+1,0,none⟩=some (.int .i64 s.id):=by go_simp
  have s1:(((w.setCell ⟨b,7,none⟩ (.int .i64 ((n:Int)+1))).alloc (.cells #[.int .i64 H, .int .i64 HX, .int .i64 HY] 83)).alloc (.cells #[.int .i64 s.id, .int .i64 s.a, .int .i64 s.b, .int .i64 s.c, .int .i64 s.d, .int .i64 s.label] 75)).cell? ⟨w.heap.size+1,1,none⟩=some (.int .i64 s.a):=by go_simp
  have s2:(((w.setCell ⟨b,7,none⟩ (.int .i64 ((n:Int)+1))).alloc (.cells #[.int .i64 H, .int .i64 HX, .int .i64 HY] 83)).alloc (.cells #[.int .i64 s.id, .int .i64 s.a, .int .i64 s.b, .int .i64 s.c, .int .i64 s.d, .int .i64 s.label] 75)).cell? ⟨w.heap.size+1,2,none⟩=some (.int .i64 s.b):=by go_simp
  have s3:(((w.setCell ⟨b,7,none⟩ (.int .i64 ((n:Int)+1))).alloc (.cells #[.int .i64 H, .int .i64 HX, .int .i64 HY] 83)).alloc (.cells #[.int .i64 s.id, .int .i64 s.a, .int .i64 s.b, .int .i64 s.c, .int .i64 s.d, .int .i64 s.label] 75)).cell? ⟨w.heap.size+1,3,none⟩=some (.int .i64 s.c):=by go_simp
  have s4:(((w.setCell ⟨b,7,none⟩ (.int .i64 ((n:Int)+1))).alloc (.cells #[.int .i64 H, .int .i64 HX, .int .i64 HY] 83)).alloc (.cells #[.int .i64 s.id, .int .i64 s.a, .int .i64 s.b, .int .i64 s.c, .int .i64 s.d, .int .i64 s.label] 75)).cell? ⟨w.heap.size+1,4,none⟩=some (.int .i64 s.d):=by go_simp
  have s5:(((w.setCell ⟨b,7,none⟩ (.int .i64 ((n:Int)+1))).alloc (.cells #[.int .i64 H, .int .i64 HX, .int .i64 HY] 83)).alloc (.cells #[.int .i64 s.id, .int .i64 s.a, .int .i64 s.b, .int .i64 s.c, .int .i64 s.d, .int .i64 s.label] 75)).cell? ⟨w.heap.size+1,5,none⟩=some (.int .i64 s.label):=by go_simp
  have vs:(((w.setCell ⟨b,7,none⟩ (.int .i64 ((n:Int)+1))).alloc (.cells #[.int .i64 H, .int .i64 HX, .int .i64 HY] 83)).alloc (.cells #[.int .i64 s.id, .int .i64 s.a, .int .i64 s.b, .int .i64 s.c, .int .i64 s.d, .int .i64 s.label] 75)).heap.size=w.heap.size+2:=by simp
  have m0:(((w.setCell ⟨b,7,none⟩ (.int .i64 ((n:Int)+1))).alloc (.cells #[.int .i64 H, .int .i64 HX, .int .i64 HY] 83)).alloc (.cells #[.int .i64 s.id, .int .i64 s.a, .int .i64 s.b, .int .i64 s.c, .int .i64 s.d, .int .i64 s.label] 75)).cell? ⟨b,0,none⟩=some (.int .i64 l):=by go_simp
  have m1:(((w.setCell ⟨b,7,none⟩ (.int .i64 ((n:Int)+1))).alloc (.cells #[.int .i64 H, .int .i64 HX, .int .i64 HY] 83)).alloc (.cells #[.int .i64 s.id, .int .i64 s.a, .int .i64 s.b, .int .i64 s.c, .int .i64 s.d, .int .i64 s.label] 75)).cell? ⟨b,1,none⟩=some (.int .i64 x):=by go_simp
  have m2:(((w.setCell ⟨b,7,none⟩ (.int .i64 ((n:Int)+1))).alloc (.cells #[.int .i64 H, .int .i64 HX, .int .i64 HY] 83)).alloc (.cells #[.int .i64 s.id, .int .i64 s.a, .int .i64 s.b, .int .i64 s.c, .int .i64 s.d, .int .i64 s.label] 75)).cell? ⟨b,2,none⟩=some (.int .i64 y):=by go_simp
  have mk:=HV.out.2.2.1
  have mf:=HV.out.2.2.2
  generalize (((w.setCell ⟨b,7,none⟩ (.int .i64 ((n:Int)+1))).alloc (.cells #[.int .i64 H, .int .i64 HX, .int .i64 HY] 83)).alloc (.cells #[.int .i64 s.id, .int .i64 s.a, .int .i64 s.b, .int .i64 s.c, .int .i64 s.d, .int .i64 s.label] 75))=V at g0 g1 g2 s0 s1 s2 s3 s4 s5 vs m0 m1 m2 mk mf HV ⊢
  clear n0 n1 n2 n7 n8 f7
  (refine wp_region_later (V.heap.size) (by kernel_rfl) (by kernel_rfl) (by go_size) ?_;(repeat (go_big_quiet_step (fail)));refine wpQuiet_nil ?_;intro Xq hlXq hmXq)
  go_wp2_with fail
  (refine wp_region_later (V.heap.size) (by kernel_rfl) (by kernel_rfl) (by go_size) ?_;(repeat (go_big_quiet_step ((first|(go_at_call 104;exact Later.call _ (Nat.le_trans (by go_size) (Later.is _).size) (PW.out _))))));refine wpQuiet_nil ?_;intro Xr hlXr hmXr)
  go_upto_region 7 with (first
   | (go_at_call 105;refine (PC.out _).mono ?_;rintro e w' ⟨rfl,hb⟩;obtain ⟨X1,rfl,hl1,hm1⟩:=later _ hb (Nat.le_refl _);clear hb;(try simp only [q9A,q9B,q9D] at hm1 hl1)))
  have hbD:Below V.heap.size V (X1.w.alloc (.cells #[.int .i64 (l+1), .int .i64 cx, .int .i64 cy] 83)):=q9l
  have hX1:V.heap.size≤X1.w.heap.size:=by go_size
  have dd0:(X1.w.alloc (.cells #[.int .i64 (l+1), .int .i64 cx, .int .i64 cy] 83)).cell? ⟨X1.w.heap.size,0,none⟩=some (.int .i64 (l+1)):=by go_simp
  have dd1:(X1.w.alloc (.cells #[.int .i64 (l+1), .int .i64 cx, .int .i64 cy] 83)).cell? ⟨X1.w.heap.size,1,none⟩=some (.int .i64 cx):=by go_simp
  have dd2:(X1.w.alloc (.cells #[.int .i64 (l+1), .int .i64 cx, .int .i64 cy] 83)).cell? ⟨X1.w.heap.size,2,none⟩=some (.int .i64 cy):=by go_simp
  have hds:(X1.w.alloc (.cells #[.int .i64 (l+1), .int .i64 cx, .int .i64 cy] 83)).heap.size=X1.w.heap.size+1:=by simp
  generalize (X1.w.alloc (.cells #[.int .i64 (l+1), .int .i64 cx, .int .i64 cy] 83))=V1 at hbD dd0 dd1 dd2 hds ⊢
  generalize X1.w.heap.size=D at hX1 dd0 dd1 dd2 hds ⊢
  have hj4i:(jv:Int) < 4:=by omega
  have HSS:=Lib.hid (show ∀ W',Below V1.heap.size V1 W'→(fun w'=>w'.cell? ⟨D,0,none⟩=some (.int .i64 (l+1))∧w'.cell? ⟨D,1,none⟩=some (.int .i64 cx)∧w'.cell? ⟨D,2,none⟩=some (.int .i64 cy)) W' from fun W' hb=>⟨(hb.cell (p:=⟨D,0,none⟩) (by show D < _;omega)).trans dd0,(hb.cell (p:=⟨D,1,none⟩) (by show D < _;omega)).trans dd1,(hb.cell (p:=⟨D,2,none⟩) (by show D < _;omega)).trans dd2⟩)
  go_cut [6] from 51 to 57 (fun i9 wx=>i9 = .int .i64 jv∧∃ (c cm:Nat) (w5:World),wx=w5.setCell ⟨b,3+jv,none⟩ (.pointer (some ⟨c,0,none⟩))∧Hid ((CT.node c cm [] fun _ => .nil).In w5 0 (l+1) cx cy∧c≠cm∧(V.heap.size≤c∧V.heap.size≤cm)∧Below V.heap.size V w5))
  case first=>
   refine wp_region_early (fun w'=>w'.cell? ⟨D,0,none⟩=some (.int .i64 (l+1))∧w'.cell? ⟨D,1,none⟩=some (.int .i64 cx)∧w'.cell? ⟨D,2,none⟩=some (.int .i64 cy)) (fun _=>true) (by kernel_rfl) (HSS.out _ (Below.drew (Below.refl _ _))) (fun HS=>?_)
   (refine q9t (i:=0) rfl HS ?_;(try simp only [Act.put,q9x,q9y,q9z]))
   (refine q9t (i:=1) rfl HS ?_;(try simp only [Act.put,q9x,q9y,q9z]))
   (refine q9t (i:=2) rfl HS ?_;(try simp only [Act.put,q9x,q9y,q9z]))
   refine wpAnyE_two (i:=3) (j:=4) rfl rfl (by kernel_rfl) ?_ ?_
   ·skip
    go_wp2_with fail
    go_at_call 57
    refine (freshC_any (l+1) cx cy _).mono ?_
    rintro e w5 ⟨c,cm,rfl,hinC,hcm,⟨hc1,hc2⟩,hb5⟩
    have hb5':Below V1.heap.size V1 w5:=(Below.drew (Below.refl _ _)).trans (hb5.mono (by simp))
    have HS5:=HSS.out _ hb5'
    have hb5V:Below V.heap.size V w5:=hbD.trans (hb5'.mono hbD.size)
    have k5:w5.cell? ⟨b,3+jv,none⟩=some (.pointer none):=(hb5V.cell (p:=⟨b,3+jv,none⟩) (by show b < _;omega)).trans mk
    have z5:w5.frozen? ⟨b,3+jv,none⟩=false:=(hb5V.frozen (p:=⟨b,3+jv,none⟩) (by show b < _;omega)).trans mf
    have hs5:=hb5V.size
    simp only [World.size_drew] at hc1 hc2
    have hbs1:=hbD.size
    have hbc:b≠c:=by omega
    have hbD':b≠D:=by omega
    have HC:=Lib.hid (show (CT.node c cm [] fun _ => .nil).In w5 0 (l+1) cx cy∧c≠cm∧(V.heap.size≤c∧V.heap.size≤cm)∧Below V.heap.size V w5 from ⟨hinC,hcm,⟨by omega,by omega⟩,hb5V⟩)
    clear hinC hb5 hb5' hb5V hcm hc1 hc2
    go_wp2_with fail
    first|refine ⟨fun _=>HS5,?_⟩|skip
    refine wpAnyE_one (i:=4) rfl (by kernel_rfl) ?_
    go_wp2_with fail
    first|refine ⟨fun _=>HS5,?_⟩|skip
    refine wpAnyE_one (i:=5) rfl (by kernel_rfl) ?_
    go_wp2_with fail
    first|refine ⟨fun _=>HS5,?_⟩|skip
    refine wpAnyE_one (i:=6) rfl (by kernel_rfl) ?_
    go_wp2_with fail
    first|refine ⟨fun _=>HS5,?_⟩|skip
    refine wpAnyE_one (i:=7) rfl (by kernel_rfl) ?_
    go_wp2_with fail
    have HS6:(fun w'=>w'.cell? ⟨D,0,none⟩=some (.int .i64 (l+1))∧w'.cell? ⟨D,1,none⟩=some (.int .i64 cx)∧w'.cell? ⟨D,2,none⟩=some (.int .i64 cy)) (w5.setCell ⟨b,3+jv,none⟩ (.pointer (some ⟨c,0,none⟩))):=⟨by go_simp,by go_simp,by go_simp⟩
    first|refine ⟨fun _=>HS6,?_⟩|skip
    refine ⟨by kernel_rfl,?_⟩
    go_wp2_with fail
    go_meet
    exact ⟨rfl,c,cm,w5,rfl,HC⟩
   ·go_wp2_with fail
    first|refine ⟨fun _=>HS,?_⟩|skip
    (refine q9t (i:=5) rfl HS ?_;(try simp only [Act.put,q9x,q9y,q9z]))
    refine wpAnyE_one (i:=3) rfl (by kernel_rfl) ?_
    go_wp2_with fail
    go_at_call 57
    refine (freshC_any (l+1) cx cy _).mono ?_
    rintro e w5 ⟨c,cm,rfl,hinC,hcm,⟨hc1,hc2⟩,hb5⟩
    have hb5':Below V1.heap.size V1 w5:=(Below.drew (Below.refl _ _)).trans (hb5.mono (by simp))
    have HS5:=HSS.out _ hb5'
    have hb5V:Below V.heap.size V w5:=hbD.trans (hb5'.mono hbD.size)
    have k5:w5.cell? ⟨b,3+jv,none⟩=some (.pointer none):=(hb5V.cell (p:=⟨b,3+jv,none⟩) (by show b < _;omega)).trans mk
    have z5:w5.frozen? ⟨b,3+jv,none⟩=false:=(hb5V.frozen (p:=⟨b,3+jv,none⟩) (by show b < _;omega)).trans mf
    have hs5:=hb5V.size
    simp only [World.size_drew] at hc1 hc2
    have hbs1:=hbD.size
    have hbc:b≠c:=by omega
    have hbD':b≠D:=by omega
    have HC:=Lib.hid (show (CT.node c cm [] fun _ => .nil).In w5 0 (l+1) cx cy∧c≠cm∧(V.heap.size≤c∧V.heap.size≤cm)∧Below V.heap.size V w5 from ⟨hinC,hcm,⟨by omega,by omega⟩,hb5V⟩)
    clear hinC hb5 hb5' hb5V hcm hc1 hc2
    go_wp2_with fail
    first|refine ⟨fun _=>HS5,?_⟩|skip
    refine wpAnyE_one (i:=6) rfl (by kernel_rfl) ?_
    go_wp2_with fail
    first|refine ⟨fun _=>HS5,?_⟩|skip
    refine wpAnyE_one (i:=7) rfl (by kernel_rfl) ?_
    go_wp2_with fail
    have HS6:(fun w'=>w'.cell? ⟨D,0,none⟩=some (.int .i64 (l+1))∧w'.cell? ⟨D,1,none⟩=some (.int .i64 cx)∧w'.cell? ⟨D,2,none⟩=some (.int .i64 cy)) (w5.setCell ⟨b,3+jv,none⟩ (.pointer (some ⟨c,0,none⟩))):=⟨by go_simp,by go_simp,by go_simp⟩
    first|refine ⟨fun _=>HS6,?_⟩|skip
    refine ⟨by kernel_rfl,?_⟩
    go_wp2_with fail
    go_meet
    exact ⟨rfl,c,cm,w5,rfl,HC⟩
  case rest=>
  obtain ⟨rfl,c,cm,w5,rfl,HC⟩:=hcut
  have hbs1:=hbD.size
  have hbc:b≠c:=by have:=HC.out.2.2.1;omega
  have hbD':b≠D:=by omega
  clear hbD
  have hcg2:Chg (fun j=>j=b) w (w5.setCell ⟨b,3+jv,none⟩ (.pointer (some ⟨c,0,none⟩))):=(HV.out.2.1.trans (Chg.of (X:=fun j=>j=b) HC.out.2.2.2) (fun j e => .inl e)).set (p:=⟨b,3+jv,none⟩) (.inl rfl) _
  have hca2:=(HV.out.1.chg (X:=fun _=>False) (Chg.of HC.out.2.2.2) (fun e=>e)).set (j:=3+jv) (by omega) (.pointer (CT.node c cm [] fun _ => .nil).ptr)
  rw [← HI.out.2.2.2.2.1,ctF_kid_set] at hca2
  rw [HI.out.2.2.2.2.1] at hca2
  have hca2:CellsAt (w5.setCell ⟨b,3+jv,none⟩ (.pointer (some ⟨c,0,none⟩))) b 9 (ctF l x y (updC k j (.node c cm [] fun _ => .nil)) (n+1) m):=hca2
  have hin2:(CT.node c cm [] fun _ => .nil).In (w5.setCell ⟨b,3+jv,none⟩ (.pointer (some ⟨c,0,none⟩))) z (l+1) cx cy:=in_more (Nat.zero_le z) _ _ _ _ (in_chg (X:=fun j=>j=b) ((Chg.refl (X:=fun j=>j=b) (w:=w5)).set (p:=⟨b,3+jv,none⟩) (.inl rfl) _) _ _ _ _ HC.out.1 (fun d hd=>by
   have h1:=HC.out.2.2.1
   rcases hd with rfl|rfl|⟨_,hd⟩
   ·show ¬ d=b;omega
   ·show ¬ d=b;omega
   ·exact hd.elim))
  have hw5s:=HC.out.2.2.2.size
  have k5:w5.cell? ⟨b,3+jv,none⟩=some (.pointer none):=(HC.out.2.2.2.cell (p:=⟨b,3+jv,none⟩) (by show b < _;omega)).trans mk
  have k6:(w5.setCell ⟨b,3+jv,none⟩ (.pointer (some ⟨c,0,none⟩))).cell? ⟨b,3+jv,none⟩=some (.pointer (some ⟨c,0,none⟩)):=by go_simp
  have hcV:Chg (fun j=>j=b) V (w5.setCell ⟨b,3+jv,none⟩ (.pointer (some ⟨c,0,none⟩))):=(Chg.of (X:=fun j=>j=b) HC.out.2.2.2).set (p:=⟨b,3+jv,none⟩) (.inl rfl) _
  have hV2s:=hcV.size
  have hcl:=hin2.1.1
  generalize (w5.setCell ⟨b,3+jv,none⟩ (.pointer (some ⟨c,0,none⟩)))=V2 at hcg2 hca2 hin2 k6 hcV hV2s hcl ⊢
  have hcell:∀ p:Addr,p.block < V.heap.size→¬ (p.block=b)→V2.cell? p=V.cell? p:=fun p hp hn=>hcV.cell hp hn
  have g0:V2.cell? ⟨w.heap.size,0,none⟩=some (.int .i64 H):=(hcell ⟨w.heap.size,0,none⟩ (by show w.heap.size < _;omega) (by show ¬ w.heap.size=b;omega)).trans g0
  have g1:V2.cell? ⟨w.heap.size,1,none⟩=some (.int .i64 HX):=(hcell ⟨w.heap.size,1,none⟩ (by show w.heap.size < _;omega) (by show ¬ w.heap.size=b;omega)).trans g1
  have g2:V2.cell? ⟨w.heap.size,2,none⟩=some (.int .i64 HY):=(hcell ⟨w.heap.size,2,none⟩ (by show w.heap.size < _;omega) (by show ¬ w.heap.size=b;omega)).trans g2
  have s0:V2.cell? ⟨w.heap.size+1,0,none⟩=some (.int .i64 s.id):=(hcell ⟨w.heap.size+1,0,none⟩ (by show w.heap.size+1 < _;omega) (by show ¬ w.heap.size+1=b;omega)).trans s0
  have s1:V2.cell? ⟨w.heap.size+1,1,none⟩=some (.int .i64 s.a):=(hcell ⟨w.heap.size+1,1,none⟩ (by show w.heap.size+1 < _;omega) (by show ¬ w.heap.size+1=b;omega)).trans s1
  have s2:V2.cell? ⟨w.heap.size+1,2,none⟩=some (.int .i64 s.b):=(hcell ⟨w.heap.size+1,2,none⟩ (by show w.heap.size+1 < _;omega) (by show ¬ w.heap.size+1=b;omega)).trans s2
  have s3:V2.cell? ⟨w.heap.size+1,3,none⟩=some (.int .i64 s.c):=(hcell ⟨w.heap.size+1,3,none⟩ (by show w.heap.size+1 < _;omega) (by show ¬ w.heap.size+1=b;omega)).trans s3
  have s4:V2.cell? ⟨w.heap.size+1,4,none⟩=some (.int .i64 s.d):=(hcell ⟨w.heap.size+1,4,none⟩ (by show w.heap.size+1 < _;omega) (by show ¬ w.heap.size+1=b;omega)).trans s4
  have s5:V2.cell? ⟨w.heap.size+1,5,none⟩=some (.int .i64 s.label):=(hcell ⟨w.heap.size+1,5,none⟩ (by show w.heap.size+1 < _;omega) (by show ¬ w.heap.size+1=b;omega)).trans s5
  have HN:=Lib.hid (And.intro hcg2 (And.intro hca2 hin2))
  clear hcg2 hca2 hin2 hcV hcell k5 mk mf m0 m1 m2 dd0 dd1 dd2 HSS
  go_wp2_with fail
  (refine wp_region_later_tail 8 (V2.heap.size) (by kernel_rfl) (by kernel_rfl) (by go_size) ?_;simp only [List.take_succ_cons,List.take_zero,List.drop_succ_cons,List.drop_zero];(repeat (go_big_quiet_step (fail)));refine wpQuiet_nil ?_;intro Xs hlXs hmXs)
  have hbs:Below V2.heap.size V2 Xs.w:=q9l
  go_wp2_with fail
  go_at_call 63
  have hcs:Chg (fun j=>j=b) w Xs.w:=HN.out.1.trans (Chg.of (X:=fun j=>j=b) hbs) (fun j e => .inl e)
  refine (PP.out c cm HC.out.2.1 _ (in_chg (X:=fun _=>False) (Chg.of hbs) _ _ _ _ HN.out.2.2 (fun _ _ e=>e))).mono ?_
  rintro e w9 ⟨rfl,t',hp⟩
  have HE:=Lib.hid (show Post (.returned (.tuple #[])) w9 by
   rw [← hPost]
   have hc12:=HC.out.2.2.1
   refine ⟨rfl, .node b m L (updC k j t'),put_upC (u := .node c cm [] fun _ => .nil) HI.out.1 HI.out.2.1 HI.out.2.2.1 (fun d hd => .inr ?_) (by rw [HK.out.1];rfl) ?_ hcs (by rw [HK.out.2.1,HK.out.2.2];exact hp)⟩
   ·rcases hd with rfl|rfl|⟨_,hd⟩
    ·omega
    ·omega
    ·exact hd.elim
   ·rw [HI.out.2.2.2.2.2]
    exact HN.out.2.1.chg (X:=fun _=>False) (Chg.of hbs) (fun e=>e))
  clear hp hcs hbs
  go_wp2_with fail
  exact bodyPost_end (v := .tuple #[]) (by first|rfl|kernel_rfl) rfl HE.out
theorem nput_any (s:Sh) (H HX HY:Int) (hH:hlS s=H) (hHX:s.a / sd H=HX) (hHY:s.b / sd H=HY) (hok:okS s=true) (hid:wf64 s.id):∀ f,NputOk s H HX HY f:=by
 intro f
 induction f with
 | zero=>
  intro b m L k l x y z w hf hin hat hsep hun hnew hz hlen
  exact nput_here s H HX HY hH hHX hHY hok hid b m L k l x y z w (by have:=hun.2.1;omega) hin hat hsep hun hnew hz hlen
 | succ f ih=>
  intro b m L k l x y z w hf hin hat hsep hun hnew hz hlen
  by_cases hl:H=l
  ·exact nput_here s H HX HY hH hHX hHY hok hid b m L k l x y z w hl hin hat hsep hun hnew hz hlen
  ·exact nput_down s H HX HY hH hHX hHY hok hid f ih b m L k l x y z w (by have:=hun.2.1;omega) hf hin hat hsep hun hnew hz hlen
end Go.Proofs.YthlijfligikciaaGreat
