/- A part of one proof: ScA. No condition. -/
import Derived.Test.YthlijfligikciaaGreatY10
import Derived.Test.YthlijfligikciaaGreatY38
import Derived.Test.YthlijfligikciaaGreatY19
namespace Go.Proofs.YthlijfligikciaaGreat
open Go.RowKit Go.Maps
set_option linter.unusedSimpArgs false
set_option linter.unusedVariables false
set_option maxRecDepth 2000
noncomputable def scL (L:List Rl) (role tier:Int) (g:Gr) (label a b c d:Int):Int:=min (ofT L role tier label a b c d) g.zoom
def sn1 (a b c d l:Int):Int:=sel (snapB a b c d l) (low a l)
def sn2 (a b c d l:Int):Int:=sel (snapB a b c d l) (low b l)
def sn3 (a b c d l:Int):Int:=sel (snapB a b c d l) (high c l)
def sn4 (a b c d l:Int):Int:=sel (snapB a b c d l) (high d l)
noncomputable def scB (L:List Rl) (role tier:Int) (g:Gr) (label a b c d:Int):Bool:=
 rightW role tier g && rightB a b c d && showB (scL L role tier g label a b c d) (sn1 a b c d (scL L role tier g label a b c d)) (sn2 a b c d (scL L role tier g label a b c d)) (sn3 a b c d (scL L role tier g label a b c d)) (sn4 a b c d (scL L role tier g label a b c d)) g
def seenC (sB:Bool) (id l x0 y0 x1 y1:Int):Value := .tuple #[.agg #[.int .i64 (sel sB id), .int .i64 (sel sB l), .int .i64 (sel sB x0), .int .i64 (sel sB y0), .int .i64 (sel sB x1), .int .i64 (sel sB y1)], .bool sB]
set_option maxHeartbeats 16000000 in
theorem seecloak_any (G:Nat→Prop) (lo q b k:Nat) (L:List Rl) (Pp Pc:Option Addr) (role tier id a0 b0 c0 d0 label:Int) (g:Gr) (w:World) (h:Tb w lo q b k L G) (hgw:∀ x,G x→x < w.heap.size) (hk:k < 1000000) (hcnt:cntB L≤1048576) (hn1:L.length≤1000000):
  Calls Tryz.prog 50 #[.agg #[.pointer Pp, .pointer Pc, .pointer (some ⟨q,0,none⟩)], .agg #[.int .i64 role, .int .i64 tier, .int .i64 g.ops, .int .i64 g.zoom, .int .i64 g.a, .int .i64 g.b, .int .i64 g.c, .int .i64 g.d, .bool g.void, .int .i64 g.til], .agg #[.int .i64 id, .int .i64 a0, .int .i64 b0, .int .i64 c0, .int .i64 d0, .int .i64 label]] w (TabPost G lo q b (k+1) L (seenC (scB L role tier g label a0 b0 c0 d0) id (scL L role tier g label a0 b0 c0 d0) (sn1 a0 b0 c0 d0 (scL L role tier g label a0 b0 c0 d0)) (sn2 a0 b0 c0 d0 (scL L role tier g label a0 b0 c0 d0)) (sn3 a0 b0 c0 d0 (scL L role tier g label a0 b0 c0 d0)) (sn4 a0 b0 c0 d0 (scL L role tier g label a0 b0 c0 d0))) w):=by
 have hbl:b < w.heap.size:=by obtain ⟨_,_,_,_,_,A,c,P,S,B,c0,c1,_,hm,_⟩:=h;exact hm.lt
 have p1:=fun (Y:World)=>pright_any role tier g Y
 have p2:=fun (Y:World)=>right_any a0 b0 c0 d0 Y
 have hB:scB L role tier g label a0 b0 c0 d0=(rightW role tier g && rightB a0 b0 c0 d0 && showB (scL L role tier g label a0 b0 c0 d0) (sn1 a0 b0 c0 d0 (scL L role tier g label a0 b0 c0 d0)) (sn2 a0 b0 c0 d0 (scL L role tier g label a0 b0 c0 d0)) (sn3 a0 b0 c0 d0 (scL L role tier g label a0 b0 c0 d0)) (sn4 a0 b0 c0 d0 (scL L role tier g label a0 b0 c0 d0)) g):=rfl
 obtain ⟨d1,hd1⟩:∃ d,rightW role tier g=d:=⟨_,rfl⟩
 obtain ⟨d2,hd2⟩:∃ d,rightB a0 b0 c0 d0=d:=⟨_,rfl⟩
 rw [hd1] at p1 hB
 rw [hd2] at p2 hB
 have P1:=Lib.hid p1
 have P2:=Lib.hid p2
 have hno:∀ l e1 e2 e3 e4,seenC false id l e1 e2 e3 e4 = .tuple #[.agg #[.int .i64 0, .int .i64 0, .int .i64 0, .int .i64 0, .int .i64 0, .int .i64 0], .bool false]:=fun _ _ _ _ _=>rfl
 clear p1 p2
 cases d1 with
 | false=>
  rw [hB,Bool.false_and,Bool.false_and,hno]
  have HF:=Lib.hid (show ∀ w',Below w.heap.size w w'→TabPost G lo q b (k+1) L (.tuple #[.agg #[.int .i64 0, .int .i64 0, .int .i64 0, .int .i64 0, .int .i64 0, .int .i64 0], .bool false]) w (.returned (.tuple #[.agg #[.int .i64 0, .int .i64 0, .int .i64 0, .int .i64 0, .int .i64 0, .int .i64 0], .bool false])) w' from fun w' hb=>⟨rfl,(h.keep hb).mono (Nat.le_succ _),grown_below hb⟩)
  generalize TabPost G lo q b (k+1) L _ w=Post at HF ⊢
  clear h hB hno hd1 hd2 hcnt hn1
  go_enter Tryz.func50,Tryz.ntmps50
  go_wp2_with (first
   | (go_at_call 26;refine (P1.out _).mono ?_;rintro e w' ⟨rfl,hb⟩;obtain ⟨X1,rfl,hl1,hm1⟩:=later _ hb (Nat.le_refl _);clear hb;(try simp only [q9A,q9B,q9D] at hm1 hl1)))
  refine bodyPost_ret (by simp only [results,Tryz.results50];go_simp;all_goals (first|rfl|simp [sel])) rfl (HF.out _ q9l)
 | true=>
 cases d2 with
 | false=>
  rw [hB,Bool.and_false,Bool.false_and,hno]
  have HF:=Lib.hid (show ∀ w',Below w.heap.size w w'→TabPost G lo q b (k+1) L (.tuple #[.agg #[.int .i64 0, .int .i64 0, .int .i64 0, .int .i64 0, .int .i64 0, .int .i64 0], .bool false]) w (.returned (.tuple #[.agg #[.int .i64 0, .int .i64 0, .int .i64 0, .int .i64 0, .int .i64 0, .int .i64 0], .bool false])) w' from fun w' hb=>⟨rfl,(h.keep hb).mono (Nat.le_succ _),grown_below hb⟩)
  generalize TabPost G lo q b (k+1) L _ w=Post at HF ⊢
  clear h hB hno hd1 hd2 hcnt hn1
  go_enter Tryz.func50,Tryz.ntmps50
  go_wp2_with (first
   | (go_at_call 26;refine (P1.out _).mono ?_;rintro e w' ⟨rfl,hb⟩;obtain ⟨X1,rfl,hl1,hm1⟩:=later _ hb (Nat.le_refl _);clear hb;(try simp only [q9A,q9B,q9D] at hm1 hl1))
   | (go_at_call 32;refine (P2.out _).mono ?_;rintro e w' ⟨rfl,hb⟩;obtain ⟨X2,rfl,hl2,hm2⟩:=later _ hb (Nat.le_refl _);clear hb;(try simp only [q9A,q9B,q9D] at hm2 hl2)))
  refine bodyPost_ret (by simp only [results,Tryz.results50];go_simp;all_goals (first|rfl|simp [sel])) rfl (HF.out _ q9l)
 | true=>
  have PZ:=Lib.hid (fun (Y:World) (hY:Below w.heap.size w Y) (hs:w.heap.size+4≤Y.heap.size)=>tof_any (fun x=>G x∨x=w.heap.size+3) lo q b k L role tier label a0 b0 c0 d0 Y (h.step (fun j _ _ hj=>hY.block j hj) hY.size (fun x e=>e.elim .inl (fun e => .inr (by omega)))) (fun x e=>e.elim (fun h9=>Nat.lt_of_lt_of_le (hgw x h9) hY.size) (fun e=>by omega)) hk hcnt hn1)
  have PV:=Lib.hid (fun (z:Int) (Y:World)=>plevel_any role tier z g Y)
  rw [hB,Bool.true_and,Bool.true_and]
  obtain ⟨z,hz⟩:∃ z,ofT L role tier label a0 b0 c0 d0=z:=⟨_,rfl⟩
  have hl:scL L role tier g label a0 b0 c0 d0=min z g.zoom:=by unfold scL;rw [hz]
  rw [hl]
  rw [hz] at PZ
  obtain ⟨l,hle⟩:∃ l,min z g.zoom=l:=⟨_,rfl⟩
  rw [hle]
  have PV2:=Lib.hid (fun (Y:World)=>(by have:=PV.out z Y;rw [hle] at this;exact this:Calls Tryz.prog 27 #[.agg #[.int .i64 role, .int .i64 tier, .int .i64 g.ops, .int .i64 g.zoom, .int .i64 g.a, .int .i64 g.b, .int .i64 g.c, .int .i64 g.d, .bool g.void, .int .i64 g.til], .int .i64 z] Y fun e w'=>e = .returned (.int .i64 l)∧Below Y.heap.size Y w'))
  have psn:=fun (Y:World)=>snap_any a0 b0 c0 d0 l Y
  unfold seenC sn1 sn2 sn3 sn4
  obtain ⟨nB,hnB⟩:∃ c,snapB a0 b0 c0 d0 l=c:=⟨_,rfl⟩
  rw [hnB] at psn ⊢
  obtain ⟨x0,hx0⟩:∃ c,sel nB (low a0 l)=c:=⟨_,rfl⟩
  obtain ⟨y0,hy0⟩:∃ c,sel nB (low b0 l)=c:=⟨_,rfl⟩
  obtain ⟨x1,hx1⟩:∃ c,sel nB (high c0 l)=c:=⟨_,rfl⟩
  obtain ⟨y1,hy1⟩:∃ c,sel nB (high d0 l)=c:=⟨_,rfl⟩
  rw [hx0,hy0,hx1,hy1] at psn ⊢
  have PSn:=Lib.hid psn
  have psh:=fun (Y:World)=>pshown_any role tier id l x0 y0 x1 y1 g Y
  obtain ⟨sB,hsB⟩:∃ s,showB l x0 y0 x1 y1 g=s:=⟨_,rfl⟩
  rw [hsB] at psh ⊢
  obtain ⟨v0,hv0⟩:∃ c,sel sB id=c:=⟨_,rfl⟩
  obtain ⟨v1,hv1⟩:∃ c,sel sB l=c:=⟨_,rfl⟩
  obtain ⟨v2,hv2⟩:∃ c,sel sB x0=c:=⟨_,rfl⟩
  obtain ⟨v3,hv3⟩:∃ c,sel sB y0=c:=⟨_,rfl⟩
  obtain ⟨v4,hv4⟩:∃ c,sel sB x1=c:=⟨_,rfl⟩
  obtain ⟨v5,hv5⟩:∃ c,sel sB y1=c:=⟨_,rfl⟩
  rw [hv0,hv1,hv2,hv3,hv4,hv5] at psh ⊢
  have PSh:=Lib.hid psh
  have hqb:=h.ne
  clear h hcnt hn1 hB hno hd1 hd2 hz hl hle psn hnB hx0 hy0 hx1 hy1 psh hsB hv0 hv1 hv2 hv3 hv4 hv5 PV
  go_enter Tryz.func50,Tryz.ntmps50
  go_wp2_with (first
   | (go_at_call 26;refine (P1.out _).mono ?_;rintro e w' ⟨rfl,hb⟩;obtain ⟨X1,rfl,hl1,hm1⟩:=later _ hb (Nat.le_refl _);clear hb;(try simp only [q9A,q9B,q9D] at hm1 hl1))
   | (go_at_call 32;refine (P2.out _).mono ?_;rintro e w' ⟨rfl,hb⟩;obtain ⟨X2,rfl,hl2,hm2⟩:=later _ hb (Nat.le_refl _);clear hb;(try simp only [q9A,q9B,q9D] at hm2 hl2)))
  have HS:(fun w'=>w'.cell? ⟨w.heap.size,2,none⟩=some (.pointer (some ⟨q,0,none⟩))∧w'.cell? ⟨w.heap.size+1,0,none⟩=some (.int .i64 role)∧w'.cell? ⟨w.heap.size+1,1,none⟩=some (.int .i64 tier)∧w'.cell? ⟨w.heap.size+1,2,none⟩=some (.int .i64 g.ops)∧w'.cell? ⟨w.heap.size+1,3,none⟩=some (.int .i64 g.zoom)∧w'.cell? ⟨w.heap.size+1,4,none⟩=some (.int .i64 g.a)∧w'.cell? ⟨w.heap.size+1,5,none⟩=some (.int .i64 g.b)∧w'.cell? ⟨w.heap.size+1,6,none⟩=some (.int .i64 g.c)∧w'.cell? ⟨w.heap.size+1,7,none⟩=some (.int .i64 g.d)∧w'.cell? ⟨w.heap.size+1,8,none⟩=some (.bool g.void)∧w'.cell? ⟨w.heap.size+1,9,none⟩=some (.int .i64 g.til)∧w'.cell? ⟨w.heap.size+2,0,none⟩=some (.int .i64 id)∧w'.cell? ⟨w.heap.size+2,1,none⟩=some (.int .i64 a0)∧w'.cell? ⟨w.heap.size+2,2,none⟩=some (.int .i64 b0)∧w'.cell? ⟨w.heap.size+2,3,none⟩=some (.int .i64 c0)∧w'.cell? ⟨w.heap.size+2,4,none⟩=some (.int .i64 d0)∧w'.cell? ⟨w.heap.size+2,5,none⟩=some (.int .i64 label)) X2.w.drew:=⟨by go_simp,by go_simp,by go_simp,by go_simp,by go_simp,by go_simp,by go_simp,by go_simp,by go_simp,by go_simp,by go_simp,by go_simp,by go_simp,by go_simp,by go_simp,by go_simp,by go_simp⟩
  refine wp_region_early (fun w'=>w'.cell? ⟨w.heap.size,2,none⟩=some (.pointer (some ⟨q,0,none⟩))∧w'.cell? ⟨w.heap.size+1,0,none⟩=some (.int .i64 role)∧w'.cell? ⟨w.heap.size+1,1,none⟩=some (.int .i64 tier)∧w'.cell? ⟨w.heap.size+1,2,none⟩=some (.int .i64 g.ops)∧w'.cell? ⟨w.heap.size+1,3,none⟩=some (.int .i64 g.zoom)∧w'.cell? ⟨w.heap.size+1,4,none⟩=some (.int .i64 g.a)∧w'.cell? ⟨w.heap.size+1,5,none⟩=some (.int .i64 g.b)∧w'.cell? ⟨w.heap.size+1,6,none⟩=some (.int .i64 g.c)∧w'.cell? ⟨w.heap.size+1,7,none⟩=some (.int .i64 g.d)∧w'.cell? ⟨w.heap.size+1,8,none⟩=some (.bool g.void)∧w'.cell? ⟨w.heap.size+1,9,none⟩=some (.int .i64 g.til)∧w'.cell? ⟨w.heap.size+2,0,none⟩=some (.int .i64 id)∧w'.cell? ⟨w.heap.size+2,1,none⟩=some (.int .i64 a0)∧w'.cell? ⟨w.heap.size+2,2,none⟩=some (.int .i64 b0)∧w'.cell? ⟨w.heap.size+2,3,none⟩=some (.int .i64 c0)∧w'.cell? ⟨w.heap.size+2,4,none⟩=some (.int .i64 d0)∧w'.cell? ⟨w.heap.size+2,5,none⟩=some (.int .i64 label)) (fun j=>decide (j < 13)) (by kernel_rfl) HS (fun HS=>?_)
  (refine q9t (i:=0) rfl HS ?_;(try simp only [Act.put,q9x,q9y,q9z]))
  (refine q9t (i:=1) rfl HS ?_;(try simp only [Act.put,q9x,q9y,q9z]))
  (refine q9t (i:=2) rfl HS ?_;(try simp only [Act.put,q9x,q9y,q9z]))
  (refine q9t (i:=3) rfl HS ?_;(try simp only [Act.put,q9x,q9y,q9z]))
  (refine q9t (i:=4) rfl HS ?_;(try simp only [Act.put,q9x,q9y,q9z]))
  (refine q9t (i:=5) rfl HS ?_;(try simp only [Act.put,q9x,q9y,q9z]))
  (refine q9t (i:=6) rfl HS ?_;(try simp only [Act.put,q9x,q9y,q9z]))
  (refine q9t (i:=7) rfl HS ?_;(try simp only [Act.put,q9x,q9y,q9z]))
  (refine q9t (i:=8) rfl HS ?_;(try simp only [Act.put,q9x,q9y,q9z]))
  (refine q9t (i:=9) rfl HS ?_;(try simp only [Act.put,q9x,q9y,q9z]))
  (refine q9t (i:=10) rfl HS ?_;(try simp only [Act.put,q9x,q9y,q9z]))
  refine wpAnyE_one (i:=11) rfl (by kernel_rfl) ?_
  go_wp2_with fail
  go_at_call 49
  have hX2:Below w.heap.size w X2.w:=q9l
  have hsX:w.heap.size+4≤X2.w.heap.size:=by go_size
  refine (PZ.out _ q9l (by show w.heap.size+4≤X2.w.heap.size;exact hsX)).mono ?_
  rintro e W ⟨rfl,hT,hg⟩
  have hkW:∀ bl i,w.heap.size≤bl→bl < X2.w.heap.size→W.cell? ⟨bl,i,none⟩=X2.w.cell? ⟨bl,i,none⟩:=fun bl i h0 h1=>hg.cell_far ⟨bl,i,none⟩ h1 (fun e=>by injection e with e;have e':bl=b:=e;omega)
  have hfK:∀ i,W.frozen? ⟨w.heap.size+3,i,none⟩=X2.w.frozen? ⟨w.heap.size+3,i,none⟩:=fun i=>hg.frozen_far ⟨w.heap.size+3,i,none⟩ (by show w.heap.size+3 < X2.w.heap.size;omega) (fun e=>by injection e with e;have e':w.heap.size+3=b:=e;omega)
  have fz0:W.frozen? ⟨w.heap.size+3,0,none⟩=false:=(hfK 0).trans (by go_simp)
  have fz1:W.frozen? ⟨w.heap.size+3,1,none⟩=false:=(hfK 1).trans (by go_simp)
  have fz2:W.frozen? ⟨w.heap.size+3,2,none⟩=false:=(hfK 2).trans (by go_simp)
  have fz3:W.frozen? ⟨w.heap.size+3,3,none⟩=false:=(hfK 3).trans (by go_simp)
  have fz4:W.frozen? ⟨w.heap.size+3,4,none⟩=false:=(hfK 4).trans (by go_simp)
  have fz5:W.frozen? ⟨w.heap.size+3,5,none⟩=false:=(hfK 5).trans (by go_simp)
  have hWs:X2.w.heap.size≤W.heap.size:=hg.size
  have HS:(fun w'=>w'.cell? ⟨w.heap.size,2,none⟩=some (.pointer (some ⟨q,0,none⟩))∧w'.cell? ⟨w.heap.size+1,0,none⟩=some (.int .i64 role)∧w'.cell? ⟨w.heap.size+1,1,none⟩=some (.int .i64 tier)∧w'.cell? ⟨w.heap.size+1,2,none⟩=some (.int .i64 g.ops)∧w'.cell? ⟨w.heap.size+1,3,none⟩=some (.int .i64 g.zoom)∧w'.cell? ⟨w.heap.size+1,4,none⟩=some (.int .i64 g.a)∧w'.cell? ⟨w.heap.size+1,5,none⟩=some (.int .i64 g.b)∧w'.cell? ⟨w.heap.size+1,6,none⟩=some (.int .i64 g.c)∧w'.cell? ⟨w.heap.size+1,7,none⟩=some (.int .i64 g.d)∧w'.cell? ⟨w.heap.size+1,8,none⟩=some (.bool g.void)∧w'.cell? ⟨w.heap.size+1,9,none⟩=some (.int .i64 g.til)∧w'.cell? ⟨w.heap.size+2,0,none⟩=some (.int .i64 id)∧w'.cell? ⟨w.heap.size+2,1,none⟩=some (.int .i64 a0)∧w'.cell? ⟨w.heap.size+2,2,none⟩=some (.int .i64 b0)∧w'.cell? ⟨w.heap.size+2,3,none⟩=some (.int .i64 c0)∧w'.cell? ⟨w.heap.size+2,4,none⟩=some (.int .i64 d0)∧w'.cell? ⟨w.heap.size+2,5,none⟩=some (.int .i64 label)) W:=⟨(hkW _ _ (by omega) (by omega)).trans (by go_simp),(hkW _ _ (by omega) (by omega)).trans (by go_simp),(hkW _ _ (by omega) (by omega)).trans (by go_simp),(hkW _ _ (by omega) (by omega)).trans (by go_simp),(hkW _ _ (by omega) (by omega)).trans (by go_simp),(hkW _ _ (by omega) (by omega)).trans (by go_simp),(hkW _ _ (by omega) (by omega)).trans (by go_simp),(hkW _ _ (by omega) (by omega)).trans (by go_simp),(hkW _ _ (by omega) (by omega)).trans (by go_simp),(hkW _ _ (by omega) (by omega)).trans (by go_simp),(hkW _ _ (by omega) (by omega)).trans (by go_simp),(hkW _ _ (by omega) (by omega)).trans (by go_simp),(hkW _ _ (by omega) (by omega)).trans (by go_simp),(hkW _ _ (by omega) (by omega)).trans (by go_simp),(hkW _ _ (by omega) (by omega)).trans (by go_simp),(hkW _ _ (by omega) (by omega)).trans (by go_simp),(hkW _ _ (by omega) (by omega)).trans (by go_simp)⟩
  have s0:W.cell? ⟨w.heap.size+3,0,none⟩=some (.int .i64 0):=(hkW _ _ (by omega) (by omega)).trans (by go_simp)
  have s1:W.cell? ⟨w.heap.size+3,1,none⟩=some (.int .i64 0):=(hkW _ _ (by omega) (by omega)).trans (by go_simp)
  have s2:W.cell? ⟨w.heap.size+3,2,none⟩=some (.int .i64 0):=(hkW _ _ (by omega) (by omega)).trans (by go_simp)
  have s3:W.cell? ⟨w.heap.size+3,3,none⟩=some (.int .i64 0):=(hkW _ _ (by omega) (by omega)).trans (by go_simp)
  have s4:W.cell? ⟨w.heap.size+3,4,none⟩=some (.int .i64 0):=(hkW _ _ (by omega) (by omega)).trans (by go_simp)
  have s5:W.cell? ⟨w.heap.size+3,5,none⟩=some (.int .i64 0):=(hkW _ _ (by omega) (by omega)).trans (by go_simp)
  have HF:=Lib.hid (show ∀ w',w'.os=W.os→w'.tape=W.tape→w'.output=W.output→W.heap.size≤w'.heap.size→(∀ j,j < W.heap.size→j≠w.heap.size+3→w'.heap[j]? = W.heap[j]?)→TabPost G lo q b (k+1) L (.tuple #[.agg #[.int .i64 v0, .int .i64 v1, .int .i64 v2, .int .i64 v3, .int .i64 v4, .int .i64 v5], .bool sB]) w (.returned (.tuple #[.agg #[.int .i64 v0, .int .i64 v1, .int .i64 v2, .int .i64 v3, .int .i64 v4, .int .i64 v5], .bool sB])) w' from fun w' o1 o2 o3 hs hh=>⟨rfl,hT.step (fun j _ hne hj=>hh j hj (fun e=>hne (.inr e))) hs (fun x hx => .inl (.inl hx)),by
   have h9:=grown_after hX2 (show X2.w.grownBy W (some b) from ⟨hg.os,hg.tape,hg.output,hg.size,hg.block⟩)
   exact ⟨o1.trans h9.os,o2.trans h9.tape,o3.trans h9.output,Nat.le_trans h9.size hs,fun j hj hne=>(hh j (Nat.lt_of_lt_of_le hj h9.size) (by omega)).trans (h9.block j hj hne)⟩⟩)
  have HS9:=HS
  obtain ⟨h0,h1,h2,h3,h4,h5,h6,h7,h8,h9,h10,h11,h12,h13,h14,h15,h16⟩:=HS9
  clear hT hg hkW hfK
  go_wp2_with fail
  first|refine ⟨fun _=>HS,?_⟩|skip
  refine wpAnyE_one (i:=12) rfl (by kernel_rfl) ?_
  go_wp2_with fail
  go_at_call 27
  refine (PV2.out _).mono ?_
  rintro e w' ⟨rfl,hb⟩;obtain ⟨X3,rfl,hl3,hm3⟩:=later _ hb (Nat.le_refl _);clear hb;(try simp only [q9A,q9B,q9D] at hm3 hl3)
  have HS:(fun w'=>w'.cell? ⟨w.heap.size,2,none⟩=some (.pointer (some ⟨q,0,none⟩))∧w'.cell? ⟨w.heap.size+1,0,none⟩=some (.int .i64 role)∧w'.cell? ⟨w.heap.size+1,1,none⟩=some (.int .i64 tier)∧w'.cell? ⟨w.heap.size+1,2,none⟩=some (.int .i64 g.ops)∧w'.cell? ⟨w.heap.size+1,3,none⟩=some (.int .i64 g.zoom)∧w'.cell? ⟨w.heap.size+1,4,none⟩=some (.int .i64 g.a)∧w'.cell? ⟨w.heap.size+1,5,none⟩=some (.int .i64 g.b)∧w'.cell? ⟨w.heap.size+1,6,none⟩=some (.int .i64 g.c)∧w'.cell? ⟨w.heap.size+1,7,none⟩=some (.int .i64 g.d)∧w'.cell? ⟨w.heap.size+1,8,none⟩=some (.bool g.void)∧w'.cell? ⟨w.heap.size+1,9,none⟩=some (.int .i64 g.til)∧w'.cell? ⟨w.heap.size+2,0,none⟩=some (.int .i64 id)∧w'.cell? ⟨w.heap.size+2,1,none⟩=some (.int .i64 a0)∧w'.cell? ⟨w.heap.size+2,2,none⟩=some (.int .i64 b0)∧w'.cell? ⟨w.heap.size+2,3,none⟩=some (.int .i64 c0)∧w'.cell? ⟨w.heap.size+2,4,none⟩=some (.int .i64 d0)∧w'.cell? ⟨w.heap.size+2,5,none⟩=some (.int .i64 label)) X3.w:=⟨by go_simp,by go_simp,by go_simp,by go_simp,by go_simp,by go_simp,by go_simp,by go_simp,by go_simp,by go_simp,by go_simp,by go_simp,by go_simp,by go_simp,by go_simp,by go_simp,by go_simp⟩
  go_wp2_with fail
  first|refine ⟨fun _=>HS,?_⟩|skip
  refine wpAnyE_rest (k:=13) rfl (by kernel_rfl) (fun j hj=>by simp;omega) ?_
  simp only [List.drop_succ_cons,List.drop_zero]
  go_wp2_with (first
   | (go_at_call 39;refine (PSn.out _).mono ?_;rintro e w' ⟨rfl,hb⟩;obtain ⟨X4,rfl,hl4,hm4⟩:=later _ hb (Nat.le_refl _);clear hb;(try simp only [q9A,q9B,q9D] at hm4 hl4))
   | (go_at_call 31;refine (PSh.out _).mono ?_;rintro e w' ⟨rfl,hb⟩;obtain ⟨X6,rfl,hl6,hm6⟩:=later _ hb (Nat.le_refl _);clear hb;(try simp only [q9A,q9B,q9D] at hm6 hl6)))
  have hb6:Below W.heap.size W X6.w:=q9l
  have HE:=Lib.hid (HF.out ((((((X6.w.setCell ⟨w.heap.size+3,0,none⟩ (.int .i64 v0)).setCell ⟨w.heap.size+3,1,none⟩ (.int .i64 v1)).setCell ⟨w.heap.size+3,2,none⟩ (.int .i64 v2)).setCell ⟨w.heap.size+3,3,none⟩ (.int .i64 v3)).setCell ⟨w.heap.size+3,4,none⟩ (.int .i64 v4)).setCell ⟨w.heap.size+3,5,none⟩ (.int .i64 v5)) hb6.os hb6.tape hb6.output (by simp only [World.size_setCell];exact hb6.size) (fun j hj hne=>by
   rw [Below.heap_setCell _ _ _ j hne,Below.heap_setCell _ _ _ j hne,Below.heap_setCell _ _ _ j hne,Below.heap_setCell _ _ _ j hne,Below.heap_setCell _ _ _ j hne,Below.heap_setCell _ _ _ j hne]
   exact hb6.block j hj))
  clear hb6
  refine bodyPost_ret (by simp only [results,Tryz.results50];go_simp;all_goals (first|rfl|simp [sel])) rfl HE.out
end Go.Proofs.YthlijfligikciaaGreat
