/- A part of one proof: CkA CkB CnP CnA. No condition. -/
import Derived.Test.YthlijfligikciaaGreatY39
import Derived.Test.YthlijfligikciaaGreatY27
import Derived.Test.YthlijfligikciaaGreatY34
import Derived.Test.YthlijfligikciaaGreatY23
import Derived.Test.YthlijfligikciaaGreatY20
import Derived.Test.YthlijfligikciaaGreatY36
import Derived.Test.YthlijfligikciaaGreatY25
import Derived.Test.YthlijfligikciaaGreatY28
import Derived.Test.YthlijfligikciaaGreatY19
namespace Go.Proofs.YthlijfligikciaaGreat
open Go.RowKit Go.Maps
set_option linter.unusedSimpArgs false
set_option linter.unusedVariables false
set_option maxRecDepth 2000
set_option maxHeartbeats 16000000 in
theorem ckeep_any (G:Nat→Prop) (lo q b k:Nat) (L:List Rl) (Pp Pc:Option Addr) (role tier id a0 b0 c0 d0 label z:Int) (g:Gr) (wb vb zb:Nat) (w:World) (h:Tb w lo q b k L G) (hgw:∀ x,G x→x < w.heap.size) (hk:k+1 < 1000000) (hcnt:cntB L≤1048576) (hn1:L.length≤1000000) (hw:Wb w wb Pp Pc q) (hv:Vb w vb role tier g) (hz:w.cell? ⟨zb,0,none⟩=some (.int .i64 z)) (hne:wb≠b∧vb≠b∧zb≠b):
  Calls Tryz.prog 52 #[.agg #[.int .i64 id, .int .i64 a0, .int .i64 b0, .int .i64 c0, .int .i64 d0, .int .i64 label], .pointer (some ⟨wb,0,none⟩), .pointer (some ⟨vb,0,none⟩), .pointer (some ⟨zb,0,none⟩)] w (TabPost G lo q b (k+2) L (.bool (scB L role tier g label a0 b0 c0 d0 && (ofT L role tier label a0 b0 c0 d0 == z))) w):=by
 have hbl:=h.ltb
 have PSee:=Lib.hid (fun (Y:World) (hY:Below w.heap.size w Y)=>seecloak_any G lo q b k L Pp Pc role tier id a0 b0 c0 d0 label g Y (h.keep hY) (fun x e=>Nat.lt_of_lt_of_le (hgw x e) hY.size) (by omega) hcnt hn1)
 have PZ:=Lib.hid (fun (Y:World) (hT:Tb Y lo q b (k+1) L G) (hY:w.heap.size≤Y.heap.size)=>tof_any G lo q b (k+1) L role tier label a0 b0 c0 d0 Y hT (fun x e=>Nat.lt_of_lt_of_le (hgw x e) hY) (by omega) hcnt hn1)
 have HL:=Lib.hid (And.intro hw (And.intro hv hz))
 have hwl:=hw.lt
 have hvl:=hv.lt
 have hzl:zb < w.heap.size:=cell_lt hz
 obtain ⟨w0,w1,w2⟩:=hw
 obtain ⟨v0,v1,v2,v3,v4,v5,v6,v7,v8,v9⟩:=hv
 obtain ⟨n1,n2,n3⟩:=hne
 obtain ⟨sB,hsB⟩:∃ s,scB L role tier g label a0 b0 c0 d0=s:=⟨_,rfl⟩
 unfold TabPost seenC at PSee
 unfold TabPost at PZ
 rw [hsB] at PSee
 rw [hsB]
 obtain ⟨e0,h40⟩:∃ c,sel sB id=c:=⟨_,rfl⟩
 obtain ⟨e1,h41⟩:∃ c,sel sB (scL L role tier g label a0 b0 c0 d0)=c:=⟨_,rfl⟩
 obtain ⟨e2,h42⟩:∃ c,sel sB (sn1 a0 b0 c0 d0 (scL L role tier g label a0 b0 c0 d0))=c:=⟨_,rfl⟩
 obtain ⟨e3,h43⟩:∃ c,sel sB (sn2 a0 b0 c0 d0 (scL L role tier g label a0 b0 c0 d0))=c:=⟨_,rfl⟩
 obtain ⟨e4,h44⟩:∃ c,sel sB (sn3 a0 b0 c0 d0 (scL L role tier g label a0 b0 c0 d0))=c:=⟨_,rfl⟩
 obtain ⟨e5,h45⟩:∃ c,sel sB (sn4 a0 b0 c0 d0 (scL L role tier g label a0 b0 c0 d0))=c:=⟨_,rfl⟩
 rw [h40,h41,h42,h43,h44,h45] at PSee
 obtain ⟨zt,hzt⟩:∃ c,ofT L role tier label a0 b0 c0 d0=c:=⟨_,rfl⟩
 rw [hzt] at PZ
 rw [hzt]
 have HF:=Lib.hid (show ∀ (v:Bool) (w1 w2:World),Below w.heap.size w w1→w1.grownBy w2 (some b)→∀ (w3:World) (j:Nat),Tb w2 lo q b j L G→j≤k+2→Below w2.heap.size w2 w3→TabPost G lo q b (k+2) L (.bool v) w (.returned (.bool v)) w3 from fun v w1 w2 h1 h2 w3 j hT hj h3=>⟨rfl,(hT.keep h3).mono hj,grown_then (grown_after h1 h2) h3⟩)
 cases sB with
 | false=>
  rw [Bool.false_and]
  have HF:=Lib.hid (HF.out false)
  generalize TabPost G lo q b (k+2) L (.bool false) w=Post at HF ⊢
  clear h hgw hcnt hn1 hsB h40 h41 h42 h43 h44 h45 hzt hk PZ HL
  go_enter Tryz.func52,Tryz.ntmps52
  go_wp2_with fail
  go_at_call 50
  refine (PSee.out _ q9l).mono ?_
  rintro e W ⟨rfl,hT,hg⟩
  have HT:=Lib.hid (And.intro hT hg)
  have hs:=hg.size
  simp only [World.size_alloc] at hs
  clear hT hg PSee
  go_wp2_with fail
  (refine wp_region_later (W.heap.size+1) (by kernel_rfl) (by kernel_rfl) (by go_size) ?_;(repeat (go_big_quiet_step (fail)));refine wpQuiet_nil ?_;intro Xq hlXq hmXq)
  go_wp2_with fail
  exact HF.out _ W q9l HT.out.2 Xq.w (k+1) HT.out.1 (by omega) (show Below W.heap.size W Xq.w from q9l)
 | true=>
  rw [Bool.true_and]
  have HF:=Lib.hid (HF.out (zt == z))
  generalize TabPost G lo q b (k+2) L (.bool (zt == z)) w=Post at HF ⊢
  have hwn:w.heap.size≠b:=by omega
  have HSS:=Lib.hid (show ∀ W',Chg (fun j=>j=b) (w.alloc (.cells #[.int .i64 id, .int .i64 a0, .int .i64 b0, .int .i64 c0, .int .i64 d0, .int .i64 label] 75)) W'→(fun w'=>w'.cell? ⟨wb,2,none⟩=some (.pointer (some ⟨q,0,none⟩))∧w'.cell? ⟨vb,0,none⟩=some (.int .i64 role)∧w'.cell? ⟨vb,1,none⟩=some (.int .i64 tier)∧w'.cell? ⟨w.heap.size,5,none⟩=some (.int .i64 label)∧w'.cell? ⟨w.heap.size,1,none⟩=some (.int .i64 a0)∧w'.cell? ⟨w.heap.size,2,none⟩=some (.int .i64 b0)∧w'.cell? ⟨w.heap.size,3,none⟩=some (.int .i64 c0)∧w'.cell? ⟨w.heap.size,4,none⟩=some (.int .i64 d0)∧w'.cell? ⟨zb,0,none⟩=some (.int .i64 z)) W' from fun W' hc=>by
   have hz:(w.alloc (.cells #[.int .i64 id, .int .i64 a0, .int .i64 b0, .int .i64 c0, .int .i64 d0, .int .i64 label] 75)).heap.size=w.heap.size+1:=by simp
   exact ⟨(hc.cell (p:=⟨wb,2,none⟩) (by rw [hz];show wb < _;omega) n1).trans (by go_simp),(hc.cell (p:=⟨vb,0,none⟩) (by rw [hz];show vb < _;omega) n2).trans (by go_simp),(hc.cell (p:=⟨vb,1,none⟩) (by rw [hz];show vb < _;omega) n2).trans (by go_simp),(hc.cell (p:=⟨w.heap.size,5,none⟩) (by rw [hz];show w.heap.size < _;omega) hwn).trans (by go_simp),(hc.cell (p:=⟨w.heap.size,1,none⟩) (by rw [hz];show w.heap.size < _;omega) hwn).trans (by go_simp),(hc.cell (p:=⟨w.heap.size,2,none⟩) (by rw [hz];show w.heap.size < _;omega) hwn).trans (by go_simp),(hc.cell (p:=⟨w.heap.size,3,none⟩) (by rw [hz];show w.heap.size < _;omega) hwn).trans (by go_simp),(hc.cell (p:=⟨w.heap.size,4,none⟩) (by rw [hz];show w.heap.size < _;omega) hwn).trans (by go_simp),(hc.cell (p:=⟨zb,0,none⟩) (by rw [hz];show zb < _;omega) n3).trans (by go_simp)⟩)
  clear h hgw hcnt hn1 hsB h40 h41 h42 h43 h44 h45 hzt hk HL
  go_enter Tryz.func52,Tryz.ntmps52
  go_wp2_with fail
  go_at_call 50
  refine (PSee.out _ q9l).mono ?_
  rintro e W ⟨rfl,hT,hg⟩
  have hcW:Chg (fun j=>j=b) (w.alloc (.cells #[.int .i64 id, .int .i64 a0, .int .i64 b0, .int .i64 c0, .int .i64 d0, .int .i64 label] 75)) W:=Chg.ofGrown hg (fun k hk=>by injection hk with hk;exact hk.symm)
  have HT:=Lib.hid (And.intro hT (And.intro hg hcW))
  have hs:=hg.size
  simp only [World.size_alloc] at hs
  clear hT hg hcW PSee
  go_wp2_with fail
  have hcD:Chg (fun j=>j=b) (w.alloc (.cells #[.int .i64 id, .int .i64 a0, .int .i64 b0, .int .i64 c0, .int .i64 d0, .int .i64 label] 75)) (W.alloc (.cells #[.int .i64 e0, .int .i64 e1, .int .i64 e2, .int .i64 e3, .int .i64 e4, .int .i64 e5] 48)).drew:=(HT.out.2.2.alloc _).trans (Chg.of (X:=fun j=>j=b) (Below.drew (Below.refl _ _))) (fun k hk => .inl hk)
  have HCD:=Lib.hid hcD
  clear hcD
  refine wp_region_early (fun w'=>w'.cell? ⟨wb,2,none⟩=some (.pointer (some ⟨q,0,none⟩))∧w'.cell? ⟨vb,0,none⟩=some (.int .i64 role)∧w'.cell? ⟨vb,1,none⟩=some (.int .i64 tier)∧w'.cell? ⟨w.heap.size,5,none⟩=some (.int .i64 label)∧w'.cell? ⟨w.heap.size,1,none⟩=some (.int .i64 a0)∧w'.cell? ⟨w.heap.size,2,none⟩=some (.int .i64 b0)∧w'.cell? ⟨w.heap.size,3,none⟩=some (.int .i64 c0)∧w'.cell? ⟨w.heap.size,4,none⟩=some (.int .i64 d0)∧w'.cell? ⟨zb,0,none⟩=some (.int .i64 z)) (fun _=>true) (by kernel_rfl) (HSS.out _ HCD.out) (fun HS=>?_)
  (refine q9t (i:=0) rfl HS ?_;(try simp only [Act.put,q9x,q9y,q9z]))
  (refine q9t (i:=1) rfl HS ?_;(try simp only [Act.put,q9x,q9y,q9z]))
  (refine q9u (i:=2) rfl HS ?_;(try simp only [Act.put,q9x,q9y,q9z]))
  (refine q9u (i:=3) rfl HS ?_;(try simp only [Act.put,q9x,q9y,q9z]))
  (refine q9u (i:=4) rfl HS ?_;(try simp only [Act.put,q9x,q9y,q9z]))
  (refine q9u (i:=5) rfl HS ?_;(try simp only [Act.put,q9x,q9y,q9z]))
  (refine q9u (i:=6) rfl HS ?_;(try simp only [Act.put,q9x,q9y,q9z]))
  (refine q9u (i:=7) rfl HS ?_;(try simp only [Act.put,q9x,q9y,q9z]))
  (refine q9u (i:=8) rfl HS ?_;(try simp only [Act.put,q9x,q9y,q9z]))
  (refine q9u (i:=9) rfl HS ?_;(try simp only [Act.put,q9x,q9y,q9z]))
  (refine q9u (i:=10) rfl HS ?_;(try simp only [Act.put,q9x,q9y,q9z]))
  (refine q9u (i:=11) rfl HS ?_;(try simp only [Act.put,q9x,q9y,q9z]))
  (refine q9u (i:=13) rfl HS ?_;(try simp only [Act.put,q9x,q9y,q9z]))
  refine wpAnyE_oneG (i:=12) rfl (by kernel_rfl) (by kernel_rfl) ?_
  go_wp2_with fail
  go_at_call 49
  refine (PZ.out _ (HT.out.1.keep (((Below.refl _ _).alloc (Nat.le_refl _) _).drew)) (by simp;omega)).mono ?_
  rintro e W2 ⟨rfl,hT2,hg2⟩
  have hc2:Chg (fun j=>j=b) (w.alloc (.cells #[.int .i64 id, .int .i64 a0, .int .i64 b0, .int .i64 c0, .int .i64 d0, .int .i64 label] 75)) W2:=HCD.out.trans (Chg.ofGrown (X:=fun j=>j=b) hg2 (fun k hk=>by injection hk with hk;exact hk.symm)) (fun k hk => .inl hk)
  have HS2:=HSS.out _ hc2
  have HT2:=Lib.hid (show Tb W2 lo q b (k+2) L G∧W.grownBy W2 (some b) from ⟨hT2,grown_after (((Below.refl _ _).alloc (Nat.le_refl _) _).drew) hg2⟩)
  clear hT2 hg2 hc2
  go_wp2_with fail
  refine ⟨fun _=>HS2,?_⟩
  refine wpAnyE_oneG (i:=14) rfl (by kernel_rfl) (by kernel_rfl) ?_
  go_wp2_with fail
  refine ⟨fun _=>HS2,?_⟩
  refine wpAnyE_one (i:=15) rfl (by kernel_rfl) ?_
  go_wp2_with fail
  refine ⟨fun _=>HS2,?_⟩
  refine wpAnyE_one (i:=16) rfl (by kernel_rfl) ?_
  go_wp2_with fail
  refine ⟨fun _=>HS2,?_⟩
  refine ⟨by kernel_rfl,?_⟩
  go_wp2_with fail
  exact HF.out w W2 (Below.refl _ _) (grown_after (show Below w.heap.size w (w.alloc (.cells #[.int .i64 id, .int .i64 a0, .int .i64 b0, .int .i64 c0, .int .i64 d0, .int .i64 label] 75)) from q9l) (grown_trans HT.out.2.1 HT2.out.2)) W2 (k+2) HT2.out.1 (Nat.le_refl _) (Below.refl _ _)
noncomputable def snS (L:List Rl) (role tier:Int) (g:Gr) (s:Sh):Sn:=
 ⟨s.id,scL L role tier g s.label s.a s.b s.c s.d,sn1 s.a s.b s.c s.d (scL L role tier g s.label s.a s.b s.c s.d),sn2 s.a s.b s.c s.d (scL L role tier g s.label s.a s.b s.c s.d),sn3 s.a s.b s.c s.d (scL L role tier g s.label s.a s.b s.c s.d),sn4 s.a s.b s.c s.d (scL L role tier g s.label s.a s.b s.c s.d)⟩
noncomputable def seeS (L:List Rl) (role tier:Int) (g:Gr) (s:Sh):Bool:=scB L role tier g s.label s.a s.b s.c s.d
noncomputable def zmS (L:List Rl) (role tier:Int) (s:Sh):Int:=ofT L role tier s.label s.a s.b s.c s.d
noncomputable def kpS (L:List Rl) (role tier:Int) (g:Gr) (z:Int) (s:Sh):Bool:=seeS L role tier g s && (zmS L role tier s == z)
noncomputable def nearcQ (L:List Rl) (role tier:Int) (g:Gr) (px py:Int) (R:List Sh) (z:Int):List (Int × Sn):=(R.filter (kpS L role tier g z)).map (fun s=>(dstS px py (snS L role tier g s),snS L role tier g s))
theorem cloak_env (lo qt bt:Nat) (L:List Rl) (Pp Pc:Option Addr) (role tier z:Int) (g:Gr) (wb vb zb:Nat) (hcnt:cntB L≤1048576) (hn1:L.length≤1000000) (hne:wb≠bt∧vb≠bt∧zb≠bt):
  Env 52 (fun s:Sh=>#[.agg #[.int .i64 s.id, .int .i64 s.a, .int .i64 s.b, .int .i64 s.c, .int .i64 s.d, .int .i64 s.label], .pointer (some ⟨wb,0,none⟩), .pointer (some ⟨vb,0,none⟩), .pointer (some ⟨zb,0,none⟩)]) bt (kpS L role tier g z) (NrT lo qt bt L Pp Pc role tier z g wb vb zb) where
 step:=(near_env lo qt bt L Pp Pc role tier z g wb vb zb hcnt hn1 hne).step
 keep:=fun n G s w h hgw hn=>by
  obtain ⟨ht,⟨hw,hv,hzz⟩,h1,h2,h3⟩:=h
  refine (ckeep_any G lo qt bt n L Pp Pc role tier s.id s.a s.b s.c s.d s.label z g wb vb zb w ht hgw (by omega) hcnt hn1 hw hv hzz hne).mono ?_
  rintro e w' ⟨rfl,ht',hg'⟩
  have hc:Chg (fun j=>j=bt) w w':=Chg.ofGrown (X:=fun j=>j=bt) hg' (fun k hk=>by injection hk with hk;exact hk.symm)
  exact ⟨rfl,⟨ht',⟨hw.chg hc hne.1,hv.chg hc hne.2.1,(hc.cell (p:=⟨zb,0,none⟩) (cell_lt hzz) hne.2.2).trans hzz⟩,h1,h2,h3⟩,hg'⟩
 lt:=fun h=>h.1.ltb
 not:=fun h x hx=>(h.1.gq x hx).2
end Go.Proofs.YthlijfligikciaaGreat
namespace Go.Proofs.YthlijfligikciaaGreat
open Go
set_option linter.unusedSimpArgs false
set_option linter.unusedVariables false
def CT.wt:CT→Nat
 | .nil=>0
 | .node b m L k=>if (CT.node b m L k).sh.length=0 then 0 else 1+L.length+((k 0).wt+((k 1).wt+((k 2).wt+(k 3).wt)))
theorem cwt_node {b m:Nat} {L:List Sh} {k:Fin 4→CT}:(CT.node b m L k).wt=if (CT.node b m L k).sh.length=0 then 0 else 1+L.length+((k 0).wt+((k 1).wt+((k 2).wt+(k 3).wt))):=by rw [CT.wt]
theorem cwt_pos {t:CT} (h:t.sh.length≠0):1≤t.wt:=by
 cases t with
 | nil=>exact absurd rfl h
 | node b m L k=>rw [cwt_node,if_neg h];omega
theorem csh_len (b m:Nat) (L:List Sh) (k:Fin 4→CT):(CT.node b m L k).sh.length=L.length+((k 0).sh.length+((k 1).sh.length+((k 2).sh.length+(k 3).sh.length))):=by
 rw [sh_node];simp [kidsS]
theorem cwt_le:∀ (t:CT) (l x y:Int),t.At l x y→0≤l→t.wt≤(18 - l).toNat*t.sh.length
 | .nil,l,x,y,_,_=>by simp [CT.wt]
 | .node b m L k,l,x,y,h,h0=>by
  rw [cwt_node]
  split
  ·omega
  ·rename_i hne
   have h1:=cwt_le (k 0) _ _ _ (h.2.2 0) (by omega)
   have h2:=cwt_le (k 1) _ _ _ (h.2.2 1) (by omega)
   have h3:=cwt_le (k 2) _ _ _ (h.2.2 2) (by omega)
   have h4:=cwt_le (k 3) _ _ _ (h.2.2 3) (by omega)
   have hl:=h.1
   obtain ⟨d,hd⟩:∃ d:Nat,(18 - l).toNat=d+2:=⟨(16 - l).toNat,by omega⟩
   have hd1:(18 - (l+1)).toNat=d+1:=by omega
   rw [hd1] at h1 h2 h3 h4
   rw [hd]
   rw [csh_len] at hne ⊢
   generalize (k 0).sh.length=a1 at*
   generalize (k 1).sh.length=a2 at*
   generalize (k 2).sh.length=a3 at*
   generalize (k 3).sh.length=a4 at*
   generalize L.length=a0 at*
   have e:(d+2)*(a0+(a1+(a2+(a3+a4))))=(d+1)*a0+(a0+((d+1)*a1+(a1+((d+1)*a2+(a2+((d+1)*a3+(a3+((d+1)*a4+a4)))))))):=by
    simp only [Nat.mul_add,Nat.add_mul];omega
   have e0:a0≤(d+1)*a0:=Nat.le_mul_of_pos_left a0 (by omega)
   rw [e]
   omega
def SubC (T0:CT) (t:CT):Prop:=(∃ l x y,∀ w z,T0.In w z 0 0 0→t.In w z l x y)∧(∀ s ∈ t.sh,s ∈ T0.sh)∧∀ j,t.Bl j→T0.Bl j
theorem sub_self (t:CT):SubC t t:=⟨⟨0,0,0,fun _ _ h=>h⟩,fun _ h=>h,fun _ h=>h⟩
theorem sub_kid {T0:CT} {b m:Nat} {L:List Sh} {k:Fin 4→CT} (h:SubC T0 (.node b m L k)) (j:Fin 4):SubC T0 (k j):=by
 obtain ⟨⟨l,x,y,h1⟩,h2,h3⟩:=h
 exact ⟨⟨l+1,kx x j,ky y j,fun w z hw=>(h1 w z hw).2.2 j⟩,fun s hs=>h2 s (by rw [sh_node];exact List.mem_append_right _ (kidsS_mem.2 ⟨j,hs⟩)),fun i hi=>h3 i (.inr (.inr ⟨j,hi⟩))⟩
inductive Jt where
 | nd (d:Int) (i:Nat) (t:CT)
 | rc (d:Int) (s:Sh)
def Jt.en:Jt→En
 | .nd d i _=>⟨d,0,(i:Nat)⟩
 | .rc d s=>⟨d,1,s.id⟩
def Jt.rs (kp:Sh→Bool):Jt→List Sh
 | .nd _ _ t=>t.sh.filter kp
 | .rc _ s=>[s]
def Jt.wt:Jt→Nat
 | .nd _ _ t=>t.wt
 | .rc _ _=>1
def Jt.cn:Jt→Nat
 | .nd _ _ t=>t.sh.length
 | .rc _ _=>0
def wtJ (I:List Jt):Nat:=(I.map Jt.wt).sum
def cnJ (I:List Jt):Nat:=(I.map Jt.cn).sum
def jtsR (kp:Sh→Bool) (I:List Jt):List Sh:=I.flatMap (Jt.rs kp)
def JtOk (T0:CT) (Wt:List (Option Addr)) (kp:Sh→Bool):Jt→Prop
 | .nd _ i t=>Wt[i]? = some t.ptr∧t.sh.length≠0∧SubC T0 t
 | .rc _ s=>s ∈ T0.sh∧kp s=true
theorem jwt_pos {T0:CT} {Wt:List (Option Addr)} {kp:Sh→Bool} {i:Jt} (h:JtOk T0 Wt kp i):1≤i.wt:=by
 cases i with
 | nd d i t=>exact cwt_pos h.2.1
 | rc d r=>exact Nat.le_refl _
theorem wtJ_nil:wtJ []=0:=rfl
theorem cnJ_nil:cnJ []=0:=rfl
theorem wtJ_cons (i:Jt) (I:List Jt):wtJ (i :: I)=i.wt+wtJ I:=by simp [wtJ]
theorem cnJ_cons (i:Jt) (I:List Jt):cnJ (i :: I)=i.cn+cnJ I:=by simp [cnJ]
theorem wtJ_app (I J:List Jt):wtJ (I ++ J)=wtJ I+wtJ J:=by simp [wtJ]
theorem cnJ_app (I J:List Jt):cnJ (I ++ J)=cnJ I+cnJ J:=by simp [cnJ]
theorem wtJ_len {T0:CT} {Wt:List (Option Addr)} {kp:Sh→Bool}:∀ I:List Jt,(∀ i ∈ I,JtOk T0 Wt kp i)→I.length≤wtJ I
 | [],_=>Nat.le_refl _
 | i :: I,h=>by
  have:=wtJ_len I (fun j hj=>h j (List.mem_cons_of_mem _ hj))
  have:=jwt_pos (h i (List.mem_cons_self ..))
  rw [wtJ_cons,List.length_cons]
  omega
theorem wtJ_perm {I J:List Jt} (h:I.Perm J):wtJ I=wtJ J:=(h.map Jt.wt).sum_nat
theorem cnJ_perm {I J:List Jt} (h:I.Perm J):cnJ I=cnJ J:=(h.map Jt.cn).sum_nat
theorem jts_nil (kp:Sh→Bool):jtsR kp []=[]:=rfl
theorem jts_cons (kp:Sh→Bool) (i:Jt) (I:List Jt):jtsR kp (i :: I)=i.rs kp ++ jtsR kp I:=by simp [jtsR]
theorem jts_app (kp:Sh→Bool) (I J:List Jt):jtsR kp (I ++ J)=jtsR kp I ++ jtsR kp J:=by simp [jtsR]
theorem jts_perm {kp:Sh→Bool} {I J:List Jt} (h:I.Perm J):(jtsR kp I).Perm (jtsR kp J):=h.flatMap_right _
theorem jts_pop {I:List Jt} {M M':List En} {e:En} (h:M.Perm (I.map Jt.en)) (hp:M.Perm (e :: M')):∃ i I',I.Perm (i :: I')∧i.en=e∧M'.Perm (I'.map Jt.en):=by
 have hm:e ∈ I.map Jt.en:=h.mem_iff.1 (hp.mem_iff.2 (List.mem_cons_self ..))
 obtain ⟨i,hi,rfl⟩:=List.mem_map.1 hm
 obtain ⟨s,t,rfl⟩:=List.append_of_mem hi
 refine ⟨i,s ++ t,List.perm_middle,rfl,?_⟩
 have h1:=(hp.symm.trans h).trans ((List.perm_middle (a:=i) (l₁:=s) (l₂:=t)).map Jt.en)
 exact (List.perm_cons _).1 h1
theorem jts_out {kp:Sh→Bool} {out R:List Sh} {I I':List Jt} {d:Int} {r:Sh} (h:(out ++ jtsR kp I).Perm R) (hp:I.Perm (.rc d r :: I')):((out ++ [r]) ++ jtsR kp I').Perm R:=by
 refine List.Perm.trans ?_ h
 rw [List.append_assoc]
 refine List.Perm.append_left _ ?_
 have:=(jts_perm (kp:=kp) hp).symm
 rw [jts_cons] at this
 exact this
theorem jts_open {kp:Sh→Bool} {out R:List Sh} {I I' J:List Jt} {d:Int} {i:Nat} {t:CT} (h:(out ++ jtsR kp I).Perm R) (hp:I.Perm (.nd d i t :: I')) (hJ:(jtsR kp J).Perm (t.sh.filter kp)):(out ++ jtsR kp (J ++ I')).Perm R:=by
 refine List.Perm.trans ?_ h
 refine List.Perm.append_left _ ?_
 have h1:=(jts_perm (kp:=kp) hp).symm
 rw [jts_cons] at h1
 rw [jts_app]
 exact (hJ.append_right _).trans h1
theorem jok_perm {T0:CT} {Wt:List (Option Addr)} {kp:Sh→Bool} {I J:List Jt} (h:∀ i ∈ I,JtOk T0 Wt kp i) (hp:I.Perm J):∀ i ∈ J,JtOk T0 Wt kp i:=fun i hi=>h i (hp.mem_iff.2 hi)
theorem jok_more {T0:CT} {Wt:List (Option Addr)} {kp:Sh→Bool} {I:List Jt} (h:∀ i ∈ I,JtOk T0 Wt kp i) (Ws:List (Option Addr)):∀ i ∈ I,JtOk T0 (Wt ++ Ws) kp i:=fun i hi=>by
 have h9:=h i hi
 cases i with
 | nd d j t=>
  have hl:j < Wt.length:=(List.getElem?_eq_some_iff.1 h9.1).1
  exact ⟨by rw [List.getElem?_append_left hl];exact h9.1,h9.2⟩
 | rc d s=>exact h9
end Go.Proofs.YthlijfligikciaaGreat
namespace Go.Proofs.YthlijfligikciaaGreat
open Go.RowKit Go.Maps
set_option linter.unusedSimpArgs false
set_option linter.unusedVariables false
set_option maxRecDepth 2000
structure Sw (w:World) (k q sq:Nat) (px py lv:Int) (K:Value) (A:Option Addr) (wc:Nat) (Wt:List (Option Addr)):Prop where
 c0:w.cell? ⟨k,0,none⟩=some (.pointer (some ⟨q,0,none⟩))
 c1:w.cell? ⟨k,1,none⟩=some (.int .i64 px)
 c2:w.cell? ⟨k,2,none⟩=some (.int .i64 py)
 c3:w.cell? ⟨k,3,none⟩=some (.int .i64 lv)
 c4:w.cell? ⟨k,4,none⟩=some K
 c5:w.cell? ⟨k,5,none⟩=some (.slice A Wt.length wc)
 c6:w.cell? ⟨k,6,none⟩=some (.pointer (some ⟨sq,0,none⟩))
 f5:w.frozen? ⟨k,5,none⟩=false
 own:w.ownsRow (k+1) 121 1 (.slice A Wt.length wc) Wt.length (Wt.map Value.pointer)
section
variable {X:Nat→Prop} {w w':World} {k q sq wc:Nat} {px py lv:Int} {K:Value} {A:Option Addr} {Wt:List (Option Addr)}
theorem Sw.lt (h:Sw w k q sq px py lv K A wc Wt):k < w.heap.size:=cell_lt h.c0
theorem Sw.far (h:Sw w k q sq px py lv K A wc Wt):∀ j,gP A j→k < j∧j < w.heap.size:=fun j hj=>by
 have:=h.own.lt j (by rw [gOf_own];exact hj)
 omega
theorem Sw.chg (h:Sw w k q sq px py lv K A wc Wt) (hc:Chg X w w') (h1:¬ X k) (h2:∀ j,gP A j→¬ X j):Sw w' k q sq px py lv K A wc Wt:=
 ⟨(hc.cell (p:=⟨k,0,none⟩) h.lt h1).trans h.c0,(hc.cell (p:=⟨k,1,none⟩) h.lt h1).trans h.c1,(hc.cell (p:=⟨k,2,none⟩) h.lt h1).trans h.c2,(hc.cell (p:=⟨k,3,none⟩) h.lt h1).trans h.c3,(hc.cell (p:=⟨k,4,none⟩) h.lt h1).trans h.c4,(hc.cell (p:=⟨k,5,none⟩) h.lt h1).trans h.c5,(hc.cell (p:=⟨k,6,none⟩) h.lt h1).trans h.c6,(hc.frozen (p:=⟨k,5,none⟩) h.lt h1).trans h.f5,own_chg h.own hc (fun j hj=>h2 j (by rw [gOf_own] at hj;exact hj))⟩
theorem Sw.keep (h:Sw w k q sq px py lv K A wc Wt) (hb:Below w.heap.size w w'):Sw w' k q sq px py lv K A wc Wt:=h.chg (X:=fun _=>False) (Chg.of hb) (fun e=>e) (fun _ _ e=>e)
end
def farC (px py lv a b c d:Int):Int:=distI (sel (snapB a b c d lv) (low a lv)) (sel (snapB a b c d lv) (low b lv)) (sel (snapB a b c d lv) (high c lv)) (sel (snapB a b c d lv) (high d lv)) px py
set_option maxHeartbeats 16000000 in
theorem cfar_any (k q sq wc:Nat) (px py lv:Int) (K:Value) (A:Option Addr) (Wt:List (Option Addr)) (a b c d:Int) (w:World) (h:Sw w k q sq px py lv K A wc Wt):
  Calls Tryz.prog 129 #[.pointer (some ⟨k,0,none⟩), .agg #[.int .i64 a, .int .i64 b, .int .i64 c, .int .i64 d]] w fun e w'=>e = .returned (.int .u64 (farC px py lv a b c d))∧Below w.heap.size w w':=by
 have hlt:=h.lt
 obtain ⟨c0,c1,c2,c3,c4,c5,c6,_,_⟩:=h
 have ps:=fun (Y:World)=>snap_any a b c d lv Y
 unfold farC
 obtain ⟨sn,hsn⟩:∃ z,snapB a b c d lv=z:=⟨_,rfl⟩
 rw [hsn] at ps ⊢
 obtain ⟨v1,hv1⟩:∃ z,sel sn (low a lv)=z:=⟨_,rfl⟩
 obtain ⟨v2,hv2⟩:∃ z,sel sn (low b lv)=z:=⟨_,rfl⟩
 obtain ⟨v3,hv3⟩:∃ z,sel sn (high c lv)=z:=⟨_,rfl⟩
 obtain ⟨v4,hv4⟩:∃ z,sel sn (high d lv)=z:=⟨_,rfl⟩
 rw [hv1,hv2,hv3,hv4] at ps ⊢
 have PS:=Lib.hid ps
 have PD:=Lib.hid (fun (Y:World)=>dist_any v1 v2 v3 v4 px py Y)
 generalize distI v1 v2 v3 v4 px py=dd at PD ⊢
 clear ps hsn hv1 hv2 hv3 hv4
 go_enter Tryz.func129,Tryz.ntmps129
 go_upto_region 1 with fail
 go_cut [5,6] from 7 to 15 (fun p5 s6 wx=>∃ nb:Nat,p5 = .pointer (some ⟨nb,0,none⟩)∧s6 = .bool sn∧(w.heap.size≤nb∧nb < wx.heap.size)∧(wx.cell? ⟨nb,0,none⟩=some (.int .i64 v1)∧wx.cell? ⟨nb,1,none⟩=some (.int .i64 v2)∧wx.cell? ⟨nb,2,none⟩=some (.int .i64 v3)∧wx.cell? ⟨nb,3,none⟩=some (.int .i64 v4))∧Below w.heap.size w wx)
 case first=>
  have hz:(w.alloc (.cells #[.int .i64 a, .int .i64 b, .int .i64 c, .int .i64 d] 24)).heap.size=w.heap.size+1:=by simp
  have HSS:=Lib.hid (show ∀ W',Below (w.heap.size+1) (w.alloc (.cells #[.int .i64 a, .int .i64 b, .int .i64 c, .int .i64 d] 24)) W'→(fun w'=>w'.cell? ⟨w.heap.size,0,none⟩=some (.int .i64 a)∧w'.cell? ⟨w.heap.size,1,none⟩=some (.int .i64 b)∧w'.cell? ⟨w.heap.size,2,none⟩=some (.int .i64 c)∧w'.cell? ⟨w.heap.size,3,none⟩=some (.int .i64 d)∧w'.cell? ⟨k,3,none⟩=some (.int .i64 lv)) W' from fun W' hb=>⟨(hb.cell (p:=⟨w.heap.size,0,none⟩) (by show w.heap.size < _;omega)).trans (by go_simp),(hb.cell (p:=⟨w.heap.size,1,none⟩) (by show w.heap.size < _;omega)).trans (by go_simp),(hb.cell (p:=⟨w.heap.size,2,none⟩) (by show w.heap.size < _;omega)).trans (by go_simp),(hb.cell (p:=⟨w.heap.size,3,none⟩) (by show w.heap.size < _;omega)).trans (by go_simp),(hb.cell (p:=⟨k,3,none⟩) (by show k < _;omega)).trans (by go_simp)⟩)
  have hbw:Below w.heap.size w (w.alloc (.cells #[.int .i64 a, .int .i64 b, .int .i64 c, .int .i64 d] 24)):=(Below.refl _ _).alloc (Nat.le_refl _) _
  refine wp_region_early (fun w'=>w'.cell? ⟨w.heap.size,0,none⟩=some (.int .i64 a)∧w'.cell? ⟨w.heap.size,1,none⟩=some (.int .i64 b)∧w'.cell? ⟨w.heap.size,2,none⟩=some (.int .i64 c)∧w'.cell? ⟨w.heap.size,3,none⟩=some (.int .i64 d)∧w'.cell? ⟨k,3,none⟩=some (.int .i64 lv)) (fun _=>true) (by kernel_rfl) (HSS.out _ (Below.drew (Below.refl _ _))) (fun HS=>?_)
  (refine q9t (i:=0) rfl HS ?_;(try simp only [Act.put,q9x,q9y,q9z]))
  (refine q9t (i:=1) rfl HS ?_;(try simp only [Act.put,q9x,q9y,q9z]))
  (refine q9t (i:=2) rfl HS ?_;(try simp only [Act.put,q9x,q9y,q9z]))
  (refine q9t (i:=3) rfl HS ?_;(try simp only [Act.put,q9x,q9y,q9z]))
  (refine q9t (i:=4) rfl HS ?_;(try simp only [Act.put,q9x,q9y,q9z]))
  refine wpAnyE_two (i:=5) (j:=9) rfl rfl (by kernel_rfl) ?_ ?_
  ·go_wp2_with fail
   go_at_call 39
   refine (PS.out _).mono ?_
   rintro e w' ⟨rfl,hb⟩
   have hb':Below (w.heap.size+1) (w.alloc (.cells #[.int .i64 a, .int .i64 b, .int .i64 c, .int .i64 d] 24)) w':=(Below.drew (Below.refl _ _)).trans (hb.mono (by simp))
   obtain ⟨X1,rfl⟩:∃ X:Later (w.heap.size+1) (w.alloc (.cells #[.int .i64 a, .int .i64 b, .int .i64 c, .int .i64 d] 24)),w'=X.w:=⟨⟨w',hb'⟩,rfl⟩
   have hs1:=hb'.size
   rw [hz] at hs1
   clear hb hb'
   go_wp2_with fail
   first|refine ⟨fun _=>HSS.out _ X1.is,?_⟩|skip
   have HS:=HSS.out _ X1.is
   (refine q9t (i:=6) rfl HS ?_;(try simp only [Act.put,q9x,q9y,q9z]))
   (refine q9t (i:=7) rfl HS ?_;(try simp only [Act.put,q9x,q9y,q9z]))
   (refine q9t (i:=8) rfl HS ?_;(try simp only [Act.put,q9x,q9y,q9z]))
   refine wpAnyE_one (i:=9) rfl (by kernel_rfl) ?_
   go_wp2_with fail
   first|refine ⟨fun _=>HSS.out _ (X1.is.alloc hs1 _),?_⟩|skip
   refine wpAnyE_one (i:=10) rfl (by kernel_rfl) ?_
   go_wp2_with fail
   first|refine ⟨fun _=>HSS.out _ (X1.is.alloc hs1 _),?_⟩|skip
   refine wpAnyE_one (i:=11) rfl (by kernel_rfl) ?_
   go_wp2_with fail
   first|refine ⟨fun _=>HSS.out _ (X1.is.alloc hs1 _),?_⟩|skip
   refine ⟨by kernel_rfl,?_⟩
   go_wp2_with fail
   go_meet
   exact ⟨_,rfl,rfl,⟨by omega,by simp⟩,⟨by go_simp,by go_simp,by go_simp,by go_simp⟩,(hbw.trans (X1.is.mono (Nat.le_succ _))).alloc (by omega) _⟩
  ·go_wp2_with fail
   have hba:Below (w.heap.size+1) (w.alloc (.cells #[.int .i64 a, .int .i64 b, .int .i64 c, .int .i64 d] 24)) ((w.alloc (.cells #[.int .i64 a, .int .i64 b, .int .i64 c, .int .i64 d] 24)).drew.alloc (.cells #[.int .i64 0, .int .i64 0, .int .i64 0, .int .i64 0] 24)):=(Below.drew (Below.refl _ _)).alloc (by simp) _
   have HS:=HSS.out _ hba
   first|refine ⟨fun _=>HS,?_⟩|skip
   refine wpAnyE_one (i:=5) rfl (by kernel_rfl) ?_
   go_wp2_with fail
   go_at_call 39
   refine (PS.out _).mono ?_
   rintro e w' ⟨rfl,hb⟩;obtain ⟨X1,rfl,hl1,hm1⟩:=later _ hb (Nat.le_refl _);clear hb;(try simp only [q9A,q9B,q9D] at hm1 hl1)
   have hb1:Below (w.heap.size+1) (w.alloc (.cells #[.int .i64 a, .int .i64 b, .int .i64 c, .int .i64 d] 24)) X1.w:=q9l
   have HS:=HSS.out _ hb1
   go_wp2_with fail
   first|refine ⟨fun _=>HS,?_⟩|skip
   (refine q9t (i:=6) rfl HS ?_;(try simp only [Act.put,q9x,q9y,q9z]))
   (refine q9t (i:=7) rfl HS ?_;(try simp only [Act.put,q9x,q9y,q9z]))
   (refine q9t (i:=8) rfl HS ?_;(try simp only [Act.put,q9x,q9y,q9z]))
   have hb2:Below (w.heap.size+1) (w.alloc (.cells #[.int .i64 a, .int .i64 b, .int .i64 c, .int .i64 d] 24)) ((((X1.w.setCell ⟨w.heap.size+1,0,none⟩ (.int .i64 v1)).setCell ⟨w.heap.size+1,1,none⟩ (.int .i64 v2)).setCell ⟨w.heap.size+1,2,none⟩ (.int .i64 v3)).setCell ⟨w.heap.size+1,3,none⟩ (.int .i64 v4)):=(((hb1.setCell (Nat.le_refl _) _).setCell (Nat.le_refl _) _).setCell (Nat.le_refl _) _).setCell (Nat.le_refl _) _
   refine wpAnyE_one (i:=10) rfl (by kernel_rfl) ?_
   go_wp2_with fail
   first|refine ⟨fun _=>HSS.out _ hb2,?_⟩|skip
   refine wpAnyE_one (i:=11) rfl (by kernel_rfl) ?_
   go_wp2_with fail
   first|refine ⟨fun _=>HSS.out _ hb2,?_⟩|skip
   refine ⟨by kernel_rfl,?_⟩
   go_wp2_with fail
   go_meet
   exact ⟨_,rfl,rfl,⟨by omega,by go_size⟩,⟨by go_simp,by go_simp,by go_simp,by go_simp⟩,hbw.trans (hb2.mono (Nat.le_succ _))⟩
 case rest=>
  obtain ⟨nb,rfl,rfl,⟨hn1,hn2⟩,⟨a0,a1,a2,a3⟩,hb⟩:=hcut
  have hsc:=hb.size
  have k1:wc.cell? ⟨k,1,none⟩=some (.int .i64 px):=(hb.cell (p:=⟨k,1,none⟩) hlt).trans c1
  have k2:wc.cell? ⟨k,2,none⟩=some (.int .i64 py):=(hb.cell (p:=⟨k,2,none⟩) hlt).trans c2
  have hkc:k < wc.heap.size:=by omega
  have HB:=Lib.hid hb
  clear hb c0 c1 c2 c3 c4 c5 c6
  go_wp2_with fail
  (refine wp_region_later (wc.heap.size) (by kernel_rfl) (by kernel_rfl) (by go_size) ?_;(repeat (go_big_quiet_step ((first|(go_at_call 46;exact Later.call _ (Nat.le_trans (by go_size) (Later.is _).size) (PD.out _))))));refine wpQuiet_nil ?_;intro Xs hlXs hmXs)
  have hVs:Below wc.heap.size wc Xs.w:=q9l
  go_wp2_with fail
  go_ret
  exact ⟨rfl,HB.out.trans (hVs.mono hsc)⟩
end Go.Proofs.YthlijfligikciaaGreat
