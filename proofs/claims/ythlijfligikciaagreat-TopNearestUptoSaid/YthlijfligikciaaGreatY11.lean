/- A part of one proof: PlB. No condition. -/
import Derived.Test.YthlijfligikciaaGreatY10
namespace Go.Proofs.YthlijfligikciaaGreat
open Go.RowKit Go.Maps
set_option linter.unusedSimpArgs false
set_option linter.unusedVariables false
set_option maxRecDepth 2000
def seeL (L:List Rl) (role tier:Int) (g:Gr) (x y label:Int):Int:=min (zoomT L role tier label x y) g.zoom
def seeB (L:List Rl) (role tier:Int) (g:Gr) (x y label:Int):Bool:=
 rightW role tier g && fitsB x y && showB (seeL L role tier g x y label) (x / sd (seeL L role tier g x y label)*sd (seeL L role tier g x y label)) (y / sd (seeL L role tier g x y label)*sd (seeL L role tier g x y label)) (x / sd (seeL L role tier g x y label)*sd (seeL L role tier g x y label)+sd (seeL L role tier g x y label) - 1) (y / sd (seeL L role tier g x y label)*sd (seeL L role tier g x y label)+sd (seeL L role tier g x y label) - 1) g
def seenV (sB:Bool) (id l x y:Int):Value := .tuple #[.agg #[.int .i64 (sel sB id), .int .i64 (sel sB l), .int .i64 (sel sB (x / sd l*sd l)), .int .i64 (sel sB (y / sd l*sd l)), .int .i64 (sel sB (x / sd l*sd l+sd l - 1)), .int .i64 (sel sB (y / sd l*sd l+sd l - 1))], .bool sB]
theorem zoomT_rng {L:List Rl} {r t l x y:Int}:0≤zoomT L r t l x y∧zoomT L r t l x y≤16:=by
 unfold zoomT
 split
 ·exact zoom_range (fun r' hr=>rightR_zoom (mine_ok L r t l r' hr)) x y
 ·omega
theorem cell_ok {l x y:Int} (hl:0≤l∧l≤16) (hf:fitsB x y=true):crightB l (x / sd l) (y / sd l)=true:=by
 obtain ⟨x0,x1,y0,y1⟩:=fits_iff.1 hf
 have hs:=sd_pos l
 have hp:=pw_sd hl.1 hl.2
 refine cright_iff.2 ⟨hl.1,hl.2,Int.ediv_nonneg x0 (Int.le_of_lt hs),Int.ediv_nonneg y0 (Int.le_of_lt hs),Int.ediv_lt_of_lt_mul hs (by omega),Int.ediv_lt_of_lt_mul hs (by omega)⟩
set_option maxHeartbeats 16000000 in
theorem see_any (G:Nat→Prop) (lo q b k:Nat) (L:List Rl) (Pp Pc:Option Addr) (role tier id x y label:Int) (g:Gr) (w:World) (h:Tb w lo q b k L G) (hgw:∀ x,G x→x < w.heap.size) (hk:k < 1000000) (hcnt:cntB L≤1048576) (hn1:L.length≤1000000):
  Calls Tryz.prog 8 #[.agg #[.pointer Pp, .pointer Pc, .pointer (some ⟨q,0,none⟩)], .agg #[.int .i64 role, .int .i64 tier, .int .i64 g.ops, .int .i64 g.zoom, .int .i64 g.a, .int .i64 g.b, .int .i64 g.c, .int .i64 g.d, .bool g.void, .int .i64 g.til], .agg #[.int .i64 id, .int .i64 x, .int .i64 y, .int .i64 label]] w (TabPost G lo q b (k+1) L (seenV (seeB L role tier g x y label) id (seeL L role tier g x y label) x y) w):=by
 have hbl:b < w.heap.size:=by obtain ⟨_,_,_,_,_,A,c,P,S,B,c0,c1,_,hm,_⟩:=h;exact hm.lt
 have p1:=fun (Y:World)=>pright_any role tier g Y
 have p2:=fun (Y:World)=>fits_any x y Y
 have hB:seeB L role tier g x y label=(rightW role tier g && fitsB x y && showB (seeL L role tier g x y label) (x / sd (seeL L role tier g x y label)*sd (seeL L role tier g x y label)) (y / sd (seeL L role tier g x y label)*sd (seeL L role tier g x y label)) (x / sd (seeL L role tier g x y label)*sd (seeL L role tier g x y label)+sd (seeL L role tier g x y label) - 1) (y / sd (seeL L role tier g x y label)*sd (seeL L role tier g x y label)+sd (seeL L role tier g x y label) - 1) g):=rfl
 obtain ⟨d1,hd1⟩:∃ d,rightW role tier g=d:=⟨_,rfl⟩
 obtain ⟨d2,hd2⟩:∃ d,fitsB x y=d:=⟨_,rfl⟩
 rw [hd1] at p1 hB
 rw [hd2] at p2 hB
 have P1:=Lib.hid p1
 have P2:=Lib.hid p2
 have hno:∀ l,seenV false id l x y = .tuple #[.agg #[.int .i64 0, .int .i64 0, .int .i64 0, .int .i64 0, .int .i64 0, .int .i64 0], .bool false]:=fun l=>rfl
 clear p1 p2
 cases d1 with
 | false=>
  rw [hB,Bool.false_and,Bool.false_and,hno]
  have HF:=Lib.hid (show ∀ w',Below w.heap.size w w'→TabPost G lo q b (k+1) L (.tuple #[.agg #[.int .i64 0, .int .i64 0, .int .i64 0, .int .i64 0, .int .i64 0, .int .i64 0], .bool false]) w (.returned (.tuple #[.agg #[.int .i64 0, .int .i64 0, .int .i64 0, .int .i64 0, .int .i64 0, .int .i64 0], .bool false])) w' from fun w' hb=>⟨rfl,(h.keep hb).mono (Nat.le_succ _),grown_below hb⟩)
  generalize TabPost G lo q b (k+1) L _ w=Post at HF ⊢
  clear h hB hno hd1 hd2 hcnt hn1
  go_enter Tryz.func8,Tryz.ntmps8
  go_wp2_with (first
   | (go_at_call 26;refine (P1.out _).mono ?_;rintro e w' ⟨rfl,hb⟩;obtain ⟨X1,rfl,hl1,hm1⟩:=later _ hb (Nat.le_refl _);clear hb;(try simp only [q9A,q9B,q9D] at hm1 hl1)))
  refine bodyPost_ret (by simp only [results,Tryz.results8];go_simp;all_goals (first|rfl|simp [sel])) rfl (HF.out _ q9l)
 | true=>
 cases d2 with
 | false=>
  rw [hB,Bool.and_false,Bool.false_and,hno]
  have HF:=Lib.hid (show ∀ w',Below w.heap.size w w'→TabPost G lo q b (k+1) L (.tuple #[.agg #[.int .i64 0, .int .i64 0, .int .i64 0, .int .i64 0, .int .i64 0, .int .i64 0], .bool false]) w (.returned (.tuple #[.agg #[.int .i64 0, .int .i64 0, .int .i64 0, .int .i64 0, .int .i64 0, .int .i64 0], .bool false])) w' from fun w' hb=>⟨rfl,(h.keep hb).mono (Nat.le_succ _),grown_below hb⟩)
  generalize TabPost G lo q b (k+1) L _ w=Post at HF ⊢
  clear h hB hno hd1 hd2 hcnt hn1
  go_enter Tryz.func8,Tryz.ntmps8
  go_wp2_with (first
   | (go_at_call 26;refine (P1.out _).mono ?_;rintro e w' ⟨rfl,hb⟩;obtain ⟨X1,rfl,hl1,hm1⟩:=later _ hb (Nat.le_refl _);clear hb;(try simp only [q9A,q9B,q9D] at hm1 hl1))
   | (go_at_call 10;refine (P2.out _).mono ?_;rintro e w' ⟨rfl,hb⟩;obtain ⟨X2,rfl,hl2,hm2⟩:=later _ hb (Nat.le_refl _);clear hb;(try simp only [q9A,q9B,q9D] at hm2 hl2)))
  refine bodyPost_ret (by simp only [results,Tryz.results8];go_simp;all_goals (first|rfl|simp [sel])) rfl (HF.out _ q9l)
 | true=>
  have hgz:0≤g.zoom∧g.zoom≤16:=by
   unfold rightW at hd1
   simp only [Bool.and_eq_true] at hd1
   have:=rightG_iff.1 hd1.2
   omega
  have hzr:=zoomT_rng (L:=L) (r:=role) (t:=tier) (l:=label) (x:=x) (y:=y)
  have PZ:=Lib.hid (fun (Y:World) (hY:Below w.heap.size w Y) (hs:w.heap.size+4≤Y.heap.size)=>tzoom_any (fun x=>G x∨x=w.heap.size+3) lo q b k L role tier label x y Y (h.step (fun j _ _ hj=>hY.block j hj) hY.size (fun x e=>e.elim .inl (fun e => .inr (by omega)))) (fun x e=>e.elim (fun h9=>Nat.lt_of_lt_of_le (hgw x h9) hY.size) (fun e=>by omega)) hk hcnt hn1)
  have PV:=Lib.hid (fun (z:Int) (Y:World)=>plevel_any role tier z g Y)
  rw [hB,Bool.true_and,Bool.true_and]
  obtain ⟨z,hz⟩:∃ z,zoomT L role tier label x y=z:=⟨_,rfl⟩
  have hl:seeL L role tier g x y label=min z g.zoom:=by unfold seeL;rw [hz]
  rw [hl]
  rw [hz] at PZ hzr
  obtain ⟨l,hle⟩:∃ l,min z g.zoom=l:=⟨_,rfl⟩
  have hlr:0≤l∧l≤16:=by omega
  rw [hle]
  have PV2:=Lib.hid (fun (Y:World)=>(by have:=PV.out z Y;rw [hle] at this;exact this:Calls Tryz.prog 27 #[.agg #[.int .i64 role, .int .i64 tier, .int .i64 g.ops, .int .i64 g.zoom, .int .i64 g.a, .int .i64 g.b, .int .i64 g.c, .int .i64 g.d, .bool g.void, .int .i64 g.til], .int .i64 z] Y fun e w'=>e = .returned (.int .i64 l)∧Below Y.heap.size Y w'))
  have hcr:=cell_ok hlr hd2
  have pof:=fun (Y:World)=>cof_any x y l Y
  have pbx:=fun (Y:World)=>box_any l (x / sd l) (y / sd l) Y
  rw [show (lvlB l && fitsB x y)=true by rw [hd2,lvl_iff.2 hlr];rfl] at pof
  rw [hcr] at pbx
  simp only [sel,if_true] at pof pbx
  unfold seenV
  obtain ⟨cx,hcx⟩:∃ c,x / sd l=c:=⟨_,rfl⟩
  obtain ⟨cy,hcy⟩:∃ c,y / sd l=c:=⟨_,rfl⟩
  rw [hcx,hcy] at pof pbx ⊢
  obtain ⟨x0,hx0⟩:∃ c,cx*sd l=c:=⟨_,rfl⟩
  obtain ⟨y0,hy0⟩:∃ c,cy*sd l=c:=⟨_,rfl⟩
  rw [hx0,hy0] at pbx ⊢
  obtain ⟨x1,hx1⟩:∃ c,x0+sd l - 1=c:=⟨_,rfl⟩
  obtain ⟨y1,hy1⟩:∃ c,y0+sd l - 1=c:=⟨_,rfl⟩
  rw [hx1,hy1] at pbx ⊢
  have POf:=Lib.hid pof
  have PBx:=Lib.hid pbx
  have psh:=fun (Y:World)=>pshown_any role tier id l x0 y0 x1 y1 g Y
  obtain ⟨sB,hsB⟩:∃ s,showB l x0 y0 x1 y1 g=s:=⟨_,rfl⟩
  rw [hsB] at psh ⊢
  obtain ⟨v0,hv0⟩:∃ c,sel sB id=c:=⟨_,rfl⟩
  obtain ⟨v1,hv1⟩:∃ c,sel sB l=c:=⟨_,rfl⟩
  obtain ⟨v2,hv2⟩:∃ c,sel sB x0=c:=⟨_,rfl⟩
  obtain ⟨v3,hv3⟩:∃ c,sel sB y0=c:=⟨_,rfl⟩
  obtain ⟨v4,hv4⟩:∃ c,sel sB x1=c:=⟨_,rfl⟩
  obtain ⟨v5,hv5⟩:∃ c,sel sB y1=c:=⟨_,rfl⟩
  rw [hv0,hv1,hv2,hv3,hv4,hv5] at psh ⊢
  have PSh:=Lib.hid psh
  have hqb:=h.ne
  clear h hcnt hn1 hB hno hd1 hd2 hzr hz hl hle hlr hcr pof pbx hcx hcy hx0 hy0 hx1 hy1 psh hsB hv0 hv1 hv2 hv3 hv4 hv5 PV
  go_enter Tryz.func8,Tryz.ntmps8
  go_wp2_with (first
   | (go_at_call 26;refine (P1.out _).mono ?_;rintro e w' ⟨rfl,hb⟩;obtain ⟨X1,rfl,hl1,hm1⟩:=later _ hb (Nat.le_refl _);clear hb;(try simp only [q9A,q9B,q9D] at hm1 hl1))
   | (go_at_call 10;refine (P2.out _).mono ?_;rintro e w' ⟨rfl,hb⟩;obtain ⟨X2,rfl,hl2,hm2⟩:=later _ hb (Nat.le_refl _);clear hb;(try simp only [q9A,q9B,q9D] at hm2 hl2)))
  have HS:(fun w'=>w'.cell? ⟨w.heap.size,2,none⟩=some (.pointer (some ⟨q,0,none⟩))∧w'.cell? ⟨w.heap.size+1,0,none⟩=some (.int .i64 role)∧w'.cell? ⟨w.heap.size+1,1,none⟩=some (.int .i64 tier)∧w'.cell? ⟨w.heap.size+1,2,none⟩=some (.int .i64 g.ops)∧w'.cell? ⟨w.heap.size+1,3,none⟩=some (.int .i64 g.zoom)∧w'.cell? ⟨w.heap.size+1,4,none⟩=some (.int .i64 g.a)∧w'.cell? ⟨w.heap.size+1,5,none⟩=some (.int .i64 g.b)∧w'.cell? ⟨w.heap.size+1,6,none⟩=some (.int .i64 g.c)∧w'.cell? ⟨w.heap.size+1,7,none⟩=some (.int .i64 g.d)∧w'.cell? ⟨w.heap.size+1,8,none⟩=some (.bool g.void)∧w'.cell? ⟨w.heap.size+1,9,none⟩=some (.int .i64 g.til)∧w'.cell? ⟨w.heap.size+2,0,none⟩=some (.int .i64 id)∧w'.cell? ⟨w.heap.size+2,1,none⟩=some (.int .i64 x)∧w'.cell? ⟨w.heap.size+2,2,none⟩=some (.int .i64 y)∧w'.cell? ⟨w.heap.size+2,3,none⟩=some (.int .i64 label)) X2.w.drew:=⟨by go_simp,by go_simp,by go_simp,by go_simp,by go_simp,by go_simp,by go_simp,by go_simp,by go_simp,by go_simp,by go_simp,by go_simp,by go_simp,by go_simp,by go_simp⟩
  refine wp_region_early (fun w'=>w'.cell? ⟨w.heap.size,2,none⟩=some (.pointer (some ⟨q,0,none⟩))∧w'.cell? ⟨w.heap.size+1,0,none⟩=some (.int .i64 role)∧w'.cell? ⟨w.heap.size+1,1,none⟩=some (.int .i64 tier)∧w'.cell? ⟨w.heap.size+1,2,none⟩=some (.int .i64 g.ops)∧w'.cell? ⟨w.heap.size+1,3,none⟩=some (.int .i64 g.zoom)∧w'.cell? ⟨w.heap.size+1,4,none⟩=some (.int .i64 g.a)∧w'.cell? ⟨w.heap.size+1,5,none⟩=some (.int .i64 g.b)∧w'.cell? ⟨w.heap.size+1,6,none⟩=some (.int .i64 g.c)∧w'.cell? ⟨w.heap.size+1,7,none⟩=some (.int .i64 g.d)∧w'.cell? ⟨w.heap.size+1,8,none⟩=some (.bool g.void)∧w'.cell? ⟨w.heap.size+1,9,none⟩=some (.int .i64 g.til)∧w'.cell? ⟨w.heap.size+2,0,none⟩=some (.int .i64 id)∧w'.cell? ⟨w.heap.size+2,1,none⟩=some (.int .i64 x)∧w'.cell? ⟨w.heap.size+2,2,none⟩=some (.int .i64 y)∧w'.cell? ⟨w.heap.size+2,3,none⟩=some (.int .i64 label)) (fun j=>decide (j < 13)) (by kernel_rfl) HS (fun HS=>?_)
  (refine q9t (i:=0) rfl HS ?_;(try simp only [Act.put,q9x,q9y,q9z]))
  (refine q9t (i:=1) rfl HS ?_;(try simp only [Act.put,q9x,q9y,q9z]))
  (refine q9t (i:=2) rfl HS ?_;(try simp only [Act.put,q9x,q9y,q9z]))
  (refine q9t (i:=3) rfl HS ?_;(try simp only [Act.put,q9x,q9y,q9z]))
  (refine q9t (i:=4) rfl HS ?_;(try simp only [Act.put,q9x,q9y,q9z]))
  (refine q9t (i:=5) rfl HS ?_;(try simp only [Act.put,q9x,q9y,q9z]))
  (refine q9t (i:=6) rfl HS ?_;(try simp only [Act.put,q9x,q9y,q9z]))
  (refine q9t (i:=7) rfl HS ?_;(try simp only [Act.put,q9x,q9y,q9z]))
  (refine q9t (i:=8) rfl HS ?_;(try simp only [Act.put,q9x,q9y,q9z]))
  (refine q9t (i:=9) rfl HS ?_;(try simp only [Act.put,q9x,q9y,q9z]))
  (refine q9t (i:=10) rfl HS ?_;(try simp only [Act.put,q9x,q9y,q9z]))
  refine wpAnyE_one (i:=11) rfl (by kernel_rfl) ?_
  go_wp2_with fail
  go_at_call 28
  have hX2:Below w.heap.size w X2.w:=q9l
  have hsX:w.heap.size+4≤X2.w.heap.size:=by go_size
  refine (PZ.out _ q9l (by show w.heap.size+4≤X2.w.heap.size;exact hsX)).mono ?_
  rintro e W ⟨rfl,hT,hg⟩
  have hkW:∀ bl i,w.heap.size≤bl→bl < X2.w.heap.size→W.cell? ⟨bl,i,none⟩=X2.w.cell? ⟨bl,i,none⟩:=fun bl i h0 h1=>hg.cell_far ⟨bl,i,none⟩ h1 (fun e=>by injection e with e;have e':bl=b:=e;omega)
  have hfK:∀ i,W.frozen? ⟨w.heap.size+3,i,none⟩=X2.w.frozen? ⟨w.heap.size+3,i,none⟩:=fun i=>hg.frozen_far ⟨w.heap.size+3,i,none⟩ (by show w.heap.size+3 < X2.w.heap.size;omega) (fun e=>by injection e with e;have e':w.heap.size+3=b:=e;omega)
  have fz0:W.frozen? ⟨w.heap.size+3,0,none⟩=false:=(hfK 0).trans (by go_simp)
  have fz1:W.frozen? ⟨w.heap.size+3,1,none⟩=false:=(hfK 1).trans (by go_simp)
  have fz2:W.frozen? ⟨w.heap.size+3,2,none⟩=false:=(hfK 2).trans (by go_simp)
  have fz3:W.frozen? ⟨w.heap.size+3,3,none⟩=false:=(hfK 3).trans (by go_simp)
  have fz4:W.frozen? ⟨w.heap.size+3,4,none⟩=false:=(hfK 4).trans (by go_simp)
  have fz5:W.frozen? ⟨w.heap.size+3,5,none⟩=false:=(hfK 5).trans (by go_simp)
  have hWs:X2.w.heap.size≤W.heap.size:=hg.size
  have HS:(fun w'=>w'.cell? ⟨w.heap.size,2,none⟩=some (.pointer (some ⟨q,0,none⟩))∧w'.cell? ⟨w.heap.size+1,0,none⟩=some (.int .i64 role)∧w'.cell? ⟨w.heap.size+1,1,none⟩=some (.int .i64 tier)∧w'.cell? ⟨w.heap.size+1,2,none⟩=some (.int .i64 g.ops)∧w'.cell? ⟨w.heap.size+1,3,none⟩=some (.int .i64 g.zoom)∧w'.cell? ⟨w.heap.size+1,4,none⟩=some (.int .i64 g.a)∧w'.cell? ⟨w.heap.size+1,5,none⟩=some (.int .i64 g.b)∧w'.cell? ⟨w.heap.size+1,6,none⟩=some (.int .i64 g.c)∧w'.cell? ⟨w.heap.size+1,7,none⟩=some (.int .i64 g.d)∧w'.cell? ⟨w.heap.size+1,8,none⟩=some (.bool g.void)∧w'.cell? ⟨w.heap.size+1,9,none⟩=some (.int .i64 g.til)∧w'.cell? ⟨w.heap.size+2,0,none⟩=some (.int .i64 id)∧w'.cell? ⟨w.heap.size+2,1,none⟩=some (.int .i64 x)∧w'.cell? ⟨w.heap.size+2,2,none⟩=some (.int .i64 y)∧w'.cell? ⟨w.heap.size+2,3,none⟩=some (.int .i64 label)) W:=⟨(hkW _ _ (by omega) (by omega)).trans (by go_simp),(hkW _ _ (by omega) (by omega)).trans (by go_simp),(hkW _ _ (by omega) (by omega)).trans (by go_simp),(hkW _ _ (by omega) (by omega)).trans (by go_simp),(hkW _ _ (by omega) (by omega)).trans (by go_simp),(hkW _ _ (by omega) (by omega)).trans (by go_simp),(hkW _ _ (by omega) (by omega)).trans (by go_simp),(hkW _ _ (by omega) (by omega)).trans (by go_simp),(hkW _ _ (by omega) (by omega)).trans (by go_simp),(hkW _ _ (by omega) (by omega)).trans (by go_simp),(hkW _ _ (by omega) (by omega)).trans (by go_simp),(hkW _ _ (by omega) (by omega)).trans (by go_simp),(hkW _ _ (by omega) (by omega)).trans (by go_simp),(hkW _ _ (by omega) (by omega)).trans (by go_simp),(hkW _ _ (by omega) (by omega)).trans (by go_simp)⟩
  have s0:W.cell? ⟨w.heap.size+3,0,none⟩=some (.int .i64 0):=(hkW _ _ (by omega) (by omega)).trans (by go_simp)
  have s1:W.cell? ⟨w.heap.size+3,1,none⟩=some (.int .i64 0):=(hkW _ _ (by omega) (by omega)).trans (by go_simp)
  have s2:W.cell? ⟨w.heap.size+3,2,none⟩=some (.int .i64 0):=(hkW _ _ (by omega) (by omega)).trans (by go_simp)
  have s3:W.cell? ⟨w.heap.size+3,3,none⟩=some (.int .i64 0):=(hkW _ _ (by omega) (by omega)).trans (by go_simp)
  have s4:W.cell? ⟨w.heap.size+3,4,none⟩=some (.int .i64 0):=(hkW _ _ (by omega) (by omega)).trans (by go_simp)
  have s5:W.cell? ⟨w.heap.size+3,5,none⟩=some (.int .i64 0):=(hkW _ _ (by omega) (by omega)).trans (by go_simp)
  have HF:=Lib.hid (show ∀ w',w'.os=W.os→w'.tape=W.tape→w'.output=W.output→W.heap.size≤w'.heap.size→(∀ j,j < W.heap.size→j≠w.heap.size+3→w'.heap[j]? = W.heap[j]?)→TabPost G lo q b (k+1) L (.tuple #[.agg #[.int .i64 v0, .int .i64 v1, .int .i64 v2, .int .i64 v3, .int .i64 v4, .int .i64 v5], .bool sB]) w (.returned (.tuple #[.agg #[.int .i64 v0, .int .i64 v1, .int .i64 v2, .int .i64 v3, .int .i64 v4, .int .i64 v5], .bool sB])) w' from fun w' o1 o2 o3 hs hh=>⟨rfl,hT.step (fun j _ hne hj=>hh j hj (fun e=>hne (.inr e))) hs (fun x hx => .inl (.inl hx)),by
   have h9:=grown_after hX2 (show X2.w.grownBy W (some b) from ⟨hg.os,hg.tape,hg.output,hg.size,hg.block⟩)
   exact ⟨o1.trans h9.os,o2.trans h9.tape,o3.trans h9.output,Nat.le_trans h9.size hs,fun j hj hne=>(hh j (Nat.lt_of_lt_of_le hj h9.size) (by omega)).trans (h9.block j hj hne)⟩⟩)
  have HS9:=HS
  obtain ⟨h0,h1,h2,h3,h4,h5,h6,h7,h8,h9,h10,h11,h12,h13,h14⟩:=HS9
  clear hT hg hkW hfK
  go_wp2_with fail
  first|refine ⟨fun _=>HS,?_⟩|skip
  refine wpAnyE_one (i:=12) rfl (by kernel_rfl) ?_
  go_wp2_with fail
  go_at_call 27
  refine (PV2.out _).mono ?_
  rintro e w' ⟨rfl,hb⟩;obtain ⟨X3,rfl,hl3,hm3⟩:=later _ hb (Nat.le_refl _);clear hb;(try simp only [q9A,q9B,q9D] at hm3 hl3)
  have HS:(fun w'=>w'.cell? ⟨w.heap.size,2,none⟩=some (.pointer (some ⟨q,0,none⟩))∧w'.cell? ⟨w.heap.size+1,0,none⟩=some (.int .i64 role)∧w'.cell? ⟨w.heap.size+1,1,none⟩=some (.int .i64 tier)∧w'.cell? ⟨w.heap.size+1,2,none⟩=some (.int .i64 g.ops)∧w'.cell? ⟨w.heap.size+1,3,none⟩=some (.int .i64 g.zoom)∧w'.cell? ⟨w.heap.size+1,4,none⟩=some (.int .i64 g.a)∧w'.cell? ⟨w.heap.size+1,5,none⟩=some (.int .i64 g.b)∧w'.cell? ⟨w.heap.size+1,6,none⟩=some (.int .i64 g.c)∧w'.cell? ⟨w.heap.size+1,7,none⟩=some (.int .i64 g.d)∧w'.cell? ⟨w.heap.size+1,8,none⟩=some (.bool g.void)∧w'.cell? ⟨w.heap.size+1,9,none⟩=some (.int .i64 g.til)∧w'.cell? ⟨w.heap.size+2,0,none⟩=some (.int .i64 id)∧w'.cell? ⟨w.heap.size+2,1,none⟩=some (.int .i64 x)∧w'.cell? ⟨w.heap.size+2,2,none⟩=some (.int .i64 y)∧w'.cell? ⟨w.heap.size+2,3,none⟩=some (.int .i64 label)) X3.w:=⟨by go_simp,by go_simp,by go_simp,by go_simp,by go_simp,by go_simp,by go_simp,by go_simp,by go_simp,by go_simp,by go_simp,by go_simp,by go_simp,by go_simp,by go_simp⟩
  go_wp2_with fail
  first|refine ⟨fun _=>HS,?_⟩|skip
  refine wpAnyE_rest (k:=13) rfl (by kernel_rfl) (fun j hj=>by simp;omega) ?_
  simp only [List.drop_succ_cons,List.drop_zero]
  go_wp2_with (first
   | (go_at_call 29;refine (POf.out _).mono ?_;rintro e w' ⟨rfl,hb⟩;obtain ⟨X4,rfl,hl4,hm4⟩:=later _ hb (Nat.le_refl _);clear hb;(try simp only [q9A,q9B,q9D] at hm4 hl4))
   | (go_at_call 30;refine (PBx.out _).mono ?_;rintro e w' ⟨rfl,hb⟩;obtain ⟨X5,rfl,hl5,hm5⟩:=later _ hb (Nat.le_refl _);clear hb;(try simp only [q9A,q9B,q9D] at hm5 hl5))
   | (go_at_call 31;refine (PSh.out _).mono ?_;rintro e w' ⟨rfl,hb⟩;obtain ⟨X6,rfl,hl6,hm6⟩:=later _ hb (Nat.le_refl _);clear hb;(try simp only [q9A,q9B,q9D] at hm6 hl6)))
  have hb6:Below W.heap.size W X6.w:=q9l
  have HE:=Lib.hid (HF.out ((((((X6.w.setCell ⟨w.heap.size+3,0,none⟩ (.int .i64 v0)).setCell ⟨w.heap.size+3,1,none⟩ (.int .i64 v1)).setCell ⟨w.heap.size+3,2,none⟩ (.int .i64 v2)).setCell ⟨w.heap.size+3,3,none⟩ (.int .i64 v3)).setCell ⟨w.heap.size+3,4,none⟩ (.int .i64 v4)).setCell ⟨w.heap.size+3,5,none⟩ (.int .i64 v5)) hb6.os hb6.tape hb6.output (by simp only [World.size_setCell];exact hb6.size) (fun j hj hne=>by
   rw [Below.heap_setCell _ _ _ j hne,Below.heap_setCell _ _ _ j hne,Below.heap_setCell _ _ _ j hne,Below.heap_setCell _ _ _ j hne,Below.heap_setCell _ _ _ j hne,Below.heap_setCell _ _ _ j hne]
   exact hb6.block j hj))
  clear hb6
  refine bodyPost_ret (by simp only [results,Tryz.results8];go_simp;all_goals (first|rfl|simp [sel])) rfl HE.out
end Go.Proofs.YthlijfligikciaaGreat
