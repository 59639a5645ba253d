/- A part of one proof: PgD. No condition. -/
import Derived.Test.YthlijfligikciaaGreatY37
namespace Go.Proofs.YthlijfligikciaaGreat
open Go.RowKit Go.Maps
set_option linter.unusedSimpArgs false
set_option linter.unusedVariables false
set_option maxRecDepth 2000
theorem lt_len:∀ (xs:List Int) (a b:Int),xs.Pairwise (· < ·)→(∀ z ∈ xs,a≤z∧z≤b)→(xs.length:Int)≤max 0 (b - a+1)
 | [],a,b,_,_=>by simp;omega
 | x :: xs,a,b,hp,hr=>by
  rw [List.pairwise_cons] at hp
  have hx:=hr x (List.mem_cons_self ..)
  have h9:=lt_len xs (x+1) b hp.2 (fun z hz=>⟨by have:=hp.1 z hz;omega,(hr z (List.mem_cons_of_mem _ hz)).2⟩)
  rw [List.length_cons]
  omega
theorem lev_rng {L:List Rl} {r t:Int} {j:Nat} {xs:List Int} (h:LevL L r t j xs):∀ z ∈ xs,1≤z∧z≤16:=fun z hz=>by
 obtain ⟨h0,l,_,x,y,rfl⟩:=(h z).1 hz
 have h9:=zoom_range (fun r' hr=>rightR_zoom (mine_ok L r t l r' hr)) x y
 omega
def allQ (gz:Int) (QF:Int→List (Int × Sn)) (xs:List Int):List (Int × Sn):=xs.flatMap (fun z=>if min z gz=0 then [] else QF z)
theorem allQ_snoc (gz:Int) (QF:Int→List (Int × Sn)) (xs:List Int) (z:Int):allQ gz QF (xs ++ [z])=allQ gz QF xs ++ (if min z gz=0 then [] else QF z):=by simp [allQ]
theorem allQ_mem {gz:Int} {QF:Int→List (Int × Sn)} {xs:List Int} {p:Int × Sn} (h:p ∈ allQ gz QF xs):∃ z ∈ xs,p ∈ QF z:=by
 unfold allQ at h
 obtain ⟨z,hz,hp⟩:=List.mem_flatMap.1 h
 refine ⟨z,hz,?_⟩
 split at hp
 ·cases hp
 ·exact hp
theorem allQ_len {gz:Int} {QF:Int→List (Int × Sn)} (hl:∀ z,(QF z).length≤60):∀ xs:List Int,(allQ gz QF xs).length≤60*xs.length
 | []=>by simp [allQ]
 | z :: xs=>by
  have ih:=allQ_len (gz:=gz) hl xs
  have h9:=hl z
  unfold allQ at ih ⊢
  rw [List.flatMap_cons,List.length_append,List.length_cons]
  split
  ·simp only [List.length_nil];omega
  ·omega
def LvgPost (lo qt bt:Nat) (L:List Rl) (role tier gz:Int) (f fq m n K:Nat) (QF:Int→List (Int × Sn)) (w:World) (e:Ending) (w':World):Prop:=
 e = .returned (.tuple #[])∧∃ n' nf' C' P' xs,xs.Pairwise (· < ·)∧LevL L role tier 8 xs∧PlI w' lo qt bt L f fq m n' nf' C' P'∧P'.Perm (allQ gz QF xs)∧n'≤n+8+17*K∧Chg (CBX bt m fq none) w w'∧∀ j,gP C' j→w.heap.size≤j
set_option maxHeartbeats 16000000 in
theorem levels_near (lo qt bt:Nat) (L:List Rl) (Pp Pc:Option Addr) (role tier:Int) (g:Gr) (f fq m n K B:Nat) (p0 p1 p2 p3 p4:Nat) (St:World→Prop) (SX:Nat→Prop) (hst:Stab St SX) (QF:Int→List (Int × Sn)) (w:World) (cb:CbOk 43 #[.pointer (some ⟨p0,0,none⟩), .pointer (some ⟨p1,0,none⟩), .pointer (some ⟨p2,0,none⟩), .pointer (some ⟨p3,0,none⟩), .pointer (some ⟨p4,0,none⟩)] lo qt bt L f fq m K B g.zoom St QF)
  (hSX:∀ j,SX j→j < B∧j≠bt∧j≠m∧j≠fq) (hP:PlI w lo qt bt L f fq m n 0 none []) (hSt:St w) (hBw:B≤w.heap.size) (hcnt:cntB L≤1048576) (hn1:L.length≤1000000) (hpb:patsB L≤100000000000000) (hrt:(0≤role∧role≤7)∧0≤tier∧tier≤7) (hgz:0≤g.zoom∧g.zoom≤16)
  (hdis:∀ z z',z≠z'→∀ p ∈ QF z,∀ q ∈ QF z',p.2.id≠q.2.id) (hQl:∀ z,(QF z).length≤60) (hn:n+8+18*K≤350000) (hfB:f < w.heap.size):
  Calls Tryz.prog 37 #[(.agg #[.pointer Pp, .pointer Pc, .pointer (some ⟨qt,0,none⟩)]),(.agg #[.int .i64 role, .int .i64 tier, .int .i64 g.ops, .int .i64 g.zoom, .int .i64 g.a, .int .i64 g.b, .int .i64 g.c, .int .i64 g.d, .bool g.void, .int .i64 g.til]), .func (.func 43) #[] #[.pointer (some ⟨p0,0,none⟩), .pointer (some ⟨p1,0,none⟩), .pointer (some ⟨p2,0,none⟩), .pointer (some ⟨p3,0,none⟩), .pointer (some ⟨p4,0,none⟩)]] w (LvgPost lo qt bt L role tier g.zoom f fq m n K QF w):=by
 have PL:=Lib.hid (fun (Y:World) (hY:Below w.heap.size w Y)=>levels_any (gU (fun j=>j=fq∨j=m) none) lo qt bt n L role tier Y (hP.tb.keep hY) (fun x e=>Nat.lt_of_lt_of_le (hP.gw x e) hY.size) (by omega) hrt.1 hrt.2 hcnt hn1 hpb)
 have PV:=Lib.hid (fun (z:Int) (Y:World)=>plevel_any role tier z g Y)
 have PC:=Lib.hid cb
 have hbl:=hP.ltb
 have hnbt:=hP.nbt
 have hfql:=hP.fg.q.lt
 have hmml:=hP.fg.mp.lt
 have H:=Lib.hid (show PlI w lo qt bt L f fq m n 0 none []∧St w∧(∀ j,SX j→j < B∧j≠bt∧j≠m∧j≠fq)∧(∀ z z',z≠z'→∀ p ∈ QF z,∀ q ∈ QF z',p.2.id≠q.2.id)∧(∀ z,(QF z).length≤60) from ⟨hP,hSt,hSX,hdis,hQl⟩)
 generalize hPost:LvgPost lo qt bt L role tier g.zoom f fq m n K QF w=Post
 clear hcnt hn1 hpb hrt cb hP hSt hSX hdis hQl
 go_enter Tryz.func37,Tryz.ntmps37
 go_wp2_with fail
 go_step3
 go_wp2_with fail
 go_step3
 go_wp2_with fail
 go_at_call 82
 have hb2:Below w.heap.size w ((w.alloc (.cells #[.pointer Pp, .pointer Pc, .pointer (some ⟨qt,0,none⟩)] 38)).alloc (.cells #[.int .i64 role, .int .i64 tier, .int .i64 g.ops, .int .i64 g.zoom, .int .i64 g.a, .int .i64 g.b, .int .i64 g.c, .int .i64 g.d, .bool g.void, .int .i64 g.til] 28)):=((Below.refl _ _).alloc (Nat.le_refl _) _).alloc (by simp) _
 refine (PL.out _ hb2).mono ?_
 rintro e W ⟨⟨C1,cc1,xs,rfl,hints,hfar,hpw,hlev⟩,hT,hg⟩
 have hcW:Chg (fun j=>j=bt) w W:=(Chg.of (X:=fun j=>j=bt) hb2).trans (Chg.ofGrown (X:=fun j=>j=bt) hg (fun k hk=>by injection hk with hk;exact hk.symm)) (fun j hj => .inl hj)
 have hv8:∀ i,i < 10→W.cell? ⟨w.heap.size+1,i,none⟩=((w.alloc (.cells #[.pointer Pp, .pointer Pc, .pointer (some ⟨qt,0,none⟩)] 38)).alloc (.cells #[.int .i64 role, .int .i64 tier, .int .i64 g.ops, .int .i64 g.zoom, .int .i64 g.a, .int .i64 g.b, .int .i64 g.c, .int .i64 g.d, .bool g.void, .int .i64 g.til] 28)).cell? ⟨w.heap.size+1,i,none⟩:=fun i _=>hg.cell_far ⟨w.heap.size+1,i,none⟩ (by simp) (fun e=>by injection e with e;have e':w.heap.size+1=bt:=e;omega)
 have v0:W.cell? ⟨w.heap.size+1,0,none⟩=some (.int .i64 role):=(hv8 0 (by decide)).trans (by go_simp)
 have v1:W.cell? ⟨w.heap.size+1,1,none⟩=some (.int .i64 tier):=(hv8 1 (by decide)).trans (by go_simp)
 have v2:W.cell? ⟨w.heap.size+1,2,none⟩=some (.int .i64 g.ops):=(hv8 2 (by decide)).trans (by go_simp)
 have v3:W.cell? ⟨w.heap.size+1,3,none⟩=some (.int .i64 g.zoom):=(hv8 3 (by decide)).trans (by go_simp)
 have v4:W.cell? ⟨w.heap.size+1,4,none⟩=some (.int .i64 g.a):=(hv8 4 (by decide)).trans (by go_simp)
 have v5:W.cell? ⟨w.heap.size+1,5,none⟩=some (.int .i64 g.b):=(hv8 5 (by decide)).trans (by go_simp)
 have v6:W.cell? ⟨w.heap.size+1,6,none⟩=some (.int .i64 g.c):=(hv8 6 (by decide)).trans (by go_simp)
 have v7:W.cell? ⟨w.heap.size+1,7,none⟩=some (.int .i64 g.d):=(hv8 7 (by decide)).trans (by go_simp)
 have v8:W.cell? ⟨w.heap.size+1,8,none⟩=some (.bool g.void):=(hv8 8 (by decide)).trans (by go_simp)
 have v9:W.cell? ⟨w.heap.size+1,9,none⟩=some (.int .i64 g.til):=(hv8 9 (by decide)).trans (by go_simp)
 have hsW:=hg.size
 simp only [World.size_alloc] at hsW
 have hPW:PlI W lo qt bt L f fq m (n+8) 0 none []:=H.out.1.turn hcW hT
 have hxl:xs.length≤16:=by
  have h9:=lt_len xs 1 16 hpw (lev_rng hlev)
  omega
 obtain ⟨kx,hkx⟩:∃ k,xs.length=k:=⟨_,rfl⟩
 have HW:=Lib.hid (show PlI W lo qt bt L f fq m (n+8) 0 none []∧Chg (fun j=>j=bt) w W∧Ints W W.heap.size C1 xs∧(0 < xs.length→∀ a,C1=some a→w.heap.size≤a.block)∧xs.Pairwise (· < ·)∧LevL L role tier 8 xs∧xs.length=kx∧(W.cell? ⟨w.heap.size+1,0,none⟩=some (.int .i64 role)∧W.cell? ⟨w.heap.size+1,1,none⟩=some (.int .i64 tier)∧W.cell? ⟨w.heap.size+1,2,none⟩=some (.int .i64 g.ops)∧W.cell? ⟨w.heap.size+1,3,none⟩=some (.int .i64 g.zoom)∧W.cell? ⟨w.heap.size+1,4,none⟩=some (.int .i64 g.a)∧W.cell? ⟨w.heap.size+1,5,none⟩=some (.int .i64 g.b)∧W.cell? ⟨w.heap.size+1,6,none⟩=some (.int .i64 g.c)∧W.cell? ⟨w.heap.size+1,7,none⟩=some (.int .i64 g.d)∧W.cell? ⟨w.heap.size+1,8,none⟩=some (.bool g.void)∧W.cell? ⟨w.heap.size+1,9,none⟩=some (.int .i64 g.til)) from ⟨hPW,hcW,hints,(fun h a ha=>by have:=hfar h a ha;simp at this;omega),hpw,hlev,hkx,v0,v1,v2,v3,v4,v5,v6,v7,v8,v9⟩)
 rw [hkx] at hxl ⊢
 clear hints hfar hpw hlev hT hg hcW hv8 hb2 hPW hkx v0 v1 v2 v3 v4 v5 v6 v7 v8 v9
 go_wp2_with fail
 go_loopw [17] (fun i wr=>∃ j:Nat,i = .int .i64 j∧j≤kx∧W.heap.size≤wr.heap.size∧Hid (∃ n1 nf1 C1 P1,PlI wr lo qt bt L f fq m n1 nf1 C1 P1∧P1.Perm (allQ g.zoom QF (xs.take j))∧(n1≤n+8+j*K∧nf1≤j*K)∧Chg (CBX bt m fq none) W wr∧(∀ j,gP C1 j→W.heap.size≤j))) (fun i _=>kx - (intOf i).toNat)
 case atStart=>exact ⟨0,rfl,Nat.zero_le _,Nat.le_refl _,⟨n+8,0,none,[],HW.out.1,by simp [allQ],⟨by omega,by omega⟩,Chg.refl,fun j hj=>(by cases hj)⟩⟩
 case round=>
  obtain ⟨j,rfl,hjk,hsz,hrel⟩:=hrel
  obtain ⟨n1,nf1,C2,P1,hP1,hperm,⟨hn1',hnf1⟩,hc1,hC1⟩:=hrel.out
  by_cases hj:j < kx
  ·have hrl:j < xs.length:=by rw [HW.out.2.2.2.2.2.2.1];exact hj
   obtain ⟨bz,oz,hCz,hbz,hcz⟩:=HW.out.2.2.1 (by omega)
   have hfz:=HW.out.2.2.2.1 (by omega) _ hCz
   have hfz':w.heap.size≤bz:=hfz
   have hXn:∀ b,w.heap.size≤b→¬ CBX bt m fq none b:=fun b hb e=>by
    rcases e with e|e|e|e
    ·omega
    ·omega
    ·omega
    ·cases e
   have z0:wr.cell? ⟨bz,oz+j,none⟩=some (.int .i64 (xs.getD j 0)):=(hc1.cell (p:=⟨bz,oz+j,none⟩) hbz (hXn bz hfz')).trans (hcz j hrl)
   have hvv:∀ i,wr.cell? ⟨w.heap.size+1,i,none⟩=W.cell? ⟨w.heap.size+1,i,none⟩:=fun i=>hc1.cell (p:=⟨w.heap.size+1,i,none⟩) (by show w.heap.size+1 < _;omega) (hXn _ (by show w.heap.size≤w.heap.size+1;omega))
   obtain ⟨v0,v1,v2,v3,v4,v5,v6,v7,v8,v9⟩:=HW.out.2.2.2.2.2.2.2
   have v0:=(hvv 0).trans v0
   have v1:=(hvv 1).trans v1
   have v2:=(hvv 2).trans v2
   have v3:=(hvv 3).trans v3
   have v4:=(hvv 4).trans v4
   have v5:=(hvv 5).trans v5
   have v6:=(hvv 6).trans v6
   have v7:=(hvv 7).trans v7
   have v8:=(hvv 8).trans v8
   have v9:=(hvv 9).trans v9
   have htk:xs.take (j+1)=xs.take j ++ [xs.getD j 0]:=by
    rw [List.take_succ_eq_append_getElem hrl]
    simp [List.getD,List.getElem?_eq_getElem hrl]
   have hzx:xs.getD j 0 ∈ xs:=by simp [List.getD,List.getElem?_eq_getElem hrl]
   have hnt:∀ z' ∈ xs.take j,z'≠xs.getD j 0:=fun z' hz' e=>by
    have h9:=nodup_take (f:=fun x:Int=>x) (L:=xs) (by rw [List.map_id'];exact HW.out.2.2.2.2.1.imp (fun h=>Int.ne_of_lt h)) hrl z' hz'
    apply h9
    rw [e]
    simp [List.getD,List.getElem?_eq_getElem hrl]
   obtain ⟨z,hz⟩:∃ z,xs.getD j 0=z:=⟨_,rfl⟩
   rw [hz] at z0 htk hzx hnt
   have hzr:=lev_rng HW.out.2.2.2.2.2.1 z hzx
   have pvz:=PV.out z
   obtain ⟨lz,hlz⟩:∃ l,min z g.zoom=l:=⟨_,rfl⟩
   rw [hlz] at pvz
   have PVz:=Lib.hid pvz
   have hK9:n1+K≤350000:=by
    have:j*K≤17*K:=Nat.mul_le_mul_right K (by omega)
    omega
   have hK8:nf1≤400000:=by
    have:j*K≤17*K:=Nat.mul_le_mul_right K (by omega)
    omega
   have hjK:(j+1)*K=j*K+K:=by rw [Nat.add_mul,Nat.one_mul]
   have hSt1:=hst.st (hst.st H.out.2.1 HW.out.2.1 (fun b hb e=>(H.out.2.2.1 b hb).2.1 e)) hc1 (fun b hb e=>by
    have h9:=H.out.2.2.1 b hb
    rcases e with e|e|e|e
    ·exact h9.2.1 e
    ·exact h9.2.2.1 e
    ·exact h9.2.2.2 e
    ·cases e)
   have HR:=Lib.hid (show PlI wr lo qt bt L f fq m n1 nf1 C2 P1∧P1.Perm (allQ g.zoom QF (xs.take j))∧Chg (CBX bt m fq none) W wr∧(∀ j,gP C2 j→W.heap.size≤j)∧St wr∧xs.take (j+1)=xs.take j ++ [z]∧min z g.zoom=lz∧(∀ z' ∈ xs.take j,z'≠z) from ⟨hP1,hperm,hc1,hC1,hSt1,htk,hlz,hnt⟩)
   clear hrel hP1 hperm hc1 hC1 hcz hfz hXn hvv htk hzx hnt hz pvz hSt1
   subst hCz
   by_cases hl0:lz=0
   ·have HE:=Lib.hid (show ∀ W9,Below wr.heap.size wr W9→∃ n1 nf1 C1 P1,PlI W9 lo qt bt L f fq m n1 nf1 C1 P1∧P1.Perm (allQ g.zoom QF (xs.take (j+1)))∧(n1≤n+8+(j+1)*K∧nf1≤(j+1)*K)∧Chg (CBX bt m fq none) W W9∧(∀ j,gP C1 j→W.heap.size≤j) from fun W9 hb9=>⟨n1,nf1,C2,P1,HR.out.1.keep hb9,by rw [HR.out.2.2.2.2.2.1,allQ_snoc,if_pos (by rw [HR.out.2.2.2.2.2.2.1];exact hl0),List.append_nil];exact HR.out.2.1,⟨by omega,by omega⟩,HR.out.2.2.1.trans (Chg.of (X:=fun _=>False) hb9) (fun _ e=>e.elim),HR.out.2.2.2.1⟩)
    clear hlz
    subst hl0
    go_wp2_with (first
     | (go_at_call 27;refine (PVz.out _).mono ?_;rintro e w' ⟨rfl,hb⟩;obtain ⟨X1,rfl,hl1,hm1⟩:=later _ hb (Nat.le_refl _);clear hb;(try simp only [q9A,q9B,q9D] at hm1 hl1)))
    have hb9:Below wr.heap.size wr X1.w:=q9l
    have hs9:=hb9.size
    have HE1:=Lib.hid (HE.out _ hb9)
    clear hb9
    go_roundw
    case rel=>exact ⟨j+1,by go_num,by omega,by omega,HE1.out⟩
    case measure=>simp [intOf];omega
   ·have hlz0:(lz == 0)=false:=by simpa using hl0
    have pcb:=PC.out n1 nf1 C2 P1 z
    rw [HR.out.2.2.2.2.2.2.1] at pcb
    have PB:=Lib.hid (fun (Y:World) (hY:Below wr.heap.size wr Y)=>pcb Y (HR.out.1.keep hY) (hst.st (X:=fun _=>False) HR.out.2.2.2.2.1 (Chg.of hY) (fun _ _ e=>e)) (fun j hj=>by have:=HR.out.2.2.2.1 j hj;omega) (by have:=hY.size;omega) (by omega) (by omega) hl0 (fun p hp q hq=>by
     obtain ⟨z',hz',hp'⟩:=allQ_mem (HR.out.2.1.mem_iff.1 hp)
     exact H.out.2.2.2.1 z' z (HR.out.2.2.2.2.2.2.2 z' hz') p hp' q hq) hK9 hK8 (by
     have h9:=HR.out.2.1.length_eq
     have h8:=allQ_len (gz:=g.zoom) H.out.2.2.2.2 (xs.take j)
     rw [List.length_take] at h8
     omega))
    clear pcb
    go_wp2_with (first
     | (go_at_call 27;refine (PVz.out _).mono ?_;rintro e w' ⟨rfl,hb⟩;obtain ⟨X1,rfl,hl1,hm1⟩:=later _ hb (Nat.le_refl _);clear hb;(try simp only [q9A,q9B,q9D] at hm1 hl1)))
    have hb9:Below wr.heap.size wr X1.w:=q9l
    have hs9:=hb9.size
    refine (PB.out _ hb9).mono ?_
    rintro e w5 ⟨rfl,n5,nf5,C5,Q5,hP5,hQ5,hn5,hnf5,hc5,hC5⟩
    have hs5:=hc5.size
    have HE:=Lib.hid (show ∃ n1 nf1 C1 P1,PlI w5 lo qt bt L f fq m n1 nf1 C1 P1∧P1.Perm (allQ g.zoom QF (xs.take (j+1)))∧(n1≤n+8+(j+1)*K∧nf1≤(j+1)*K)∧Chg (CBX bt m fq none) W w5∧(∀ j,gP C1 j→W.heap.size≤j) from ⟨n5,nf5,C5,Q5 ++ P1,hP5,by
     rw [HR.out.2.2.2.2.2.1,allQ_snoc,if_neg (by rw [HR.out.2.2.2.2.2.2.1];exact hl0)]
     exact (List.Perm.append hQ5 HR.out.2.1).trans List.perm_append_comm,⟨by omega,by omega⟩,(HR.out.2.2.1.trans (Chg.of (X:=fun _=>False) hb9) (fun _ e=>e.elim)).trans hc5 (fun j hj=>by
     rcases hj with e|e|e|e
     ·exact .inl (.inl e)
     ·exact .inl (.inr (.inl e))
     ·exact .inl (.inr (.inr (.inl e)))
     ·exact .inr (HR.out.2.2.2.1 j e)),fun j hj=>(hC5 j hj).elim (HR.out.2.2.2.1 j) (fun e=>by omega)⟩)
    clear hP5 hQ5 hn5 hnf5 hc5 hC5 hb9
    go_wp2_with fail
    go_roundw
    case rel=>exact ⟨j+1,by go_num,by omega,by omega,HE.out⟩
    case measure=>simp [intOf];omega
  ·obtain rfl:j=kx:=by omega
   have hdj:decide ((j:Int) < (j:Int))=false:=decide_eq_false (by omega)
   have HE:=Lib.hid (show Post (.returned (.tuple #[])) wr by
    rw [← hPost]
    refine ⟨rfl,n1,nf1,C2,P1,xs,HW.out.2.2.2.2.1,HW.out.2.2.2.2.2.1,hP1,?_,?_,(HW.out.2.1.mono (X':=CBX bt m fq none) (fun j hj => .inl (.inl hj))).trans hc1 (fun j hj => .inl hj),fun j hj=>by have:=hC1 j hj;omega⟩
    ·rw [show xs.take j=xs by rw [← HW.out.2.2.2.2.2.2.1,List.take_length]] at hperm
     exact hperm
    ·have:j*K≤17*K:=Nat.mul_le_mul_right K (by omega)
     omega)
   clear hrel hP1 hperm hc1 hC1
   go_wp2_with fail
   (try rw [Exit.noGoto_ret])
   exact bodyPost_end (v := .tuple #[]) (by first|rfl|kernel_rfl) rfl HE.out
set_option maxHeartbeats 16000000 in
theorem levels_win (lo qt bt:Nat) (L:List Rl) (Pp Pc:Option Addr) (role tier:Int) (g:Gr) (f fq m n K B:Nat) (p0 p1 p2 p3:Nat) (St:World→Prop) (SX:Nat→Prop) (hst:Stab St SX) (QF:Int→List (Int × Sn)) (w:World) (cb:CbOk 38 #[.pointer (some ⟨p0,0,none⟩), .pointer (some ⟨p1,0,none⟩), .pointer (some ⟨p2,0,none⟩), .pointer (some ⟨p3,0,none⟩)] lo qt bt L f fq m K B g.zoom St QF)
  (hSX:∀ j,SX j→j < B∧j≠bt∧j≠m∧j≠fq) (hP:PlI w lo qt bt L f fq m n 0 none []) (hSt:St w) (hBw:B≤w.heap.size) (hcnt:cntB L≤1048576) (hn1:L.length≤1000000) (hpb:patsB L≤100000000000000) (hrt:(0≤role∧role≤7)∧0≤tier∧tier≤7) (hgz:0≤g.zoom∧g.zoom≤16)
  (hdis:∀ z z',z≠z'→∀ p ∈ QF z,∀ q ∈ QF z',p.2.id≠q.2.id) (hQl:∀ z,(QF z).length≤60) (hn:n+8+18*K≤350000) (hfB:f < w.heap.size):
  Calls Tryz.prog 37 #[(.agg #[.pointer Pp, .pointer Pc, .pointer (some ⟨qt,0,none⟩)]),(.agg #[.int .i64 role, .int .i64 tier, .int .i64 g.ops, .int .i64 g.zoom, .int .i64 g.a, .int .i64 g.b, .int .i64 g.c, .int .i64 g.d, .bool g.void, .int .i64 g.til]), .func (.func 38) #[] #[.pointer (some ⟨p0,0,none⟩), .pointer (some ⟨p1,0,none⟩), .pointer (some ⟨p2,0,none⟩), .pointer (some ⟨p3,0,none⟩)]] w (LvgPost lo qt bt L role tier g.zoom f fq m n K QF w):=by
 have PL:=Lib.hid (fun (Y:World) (hY:Below w.heap.size w Y)=>levels_any (gU (fun j=>j=fq∨j=m) none) lo qt bt n L role tier Y (hP.tb.keep hY) (fun x e=>Nat.lt_of_lt_of_le (hP.gw x e) hY.size) (by omega) hrt.1 hrt.2 hcnt hn1 hpb)
 have PV:=Lib.hid (fun (z:Int) (Y:World)=>plevel_any role tier z g Y)
 have PC:=Lib.hid cb
 have hbl:=hP.ltb
 have hnbt:=hP.nbt
 have hfql:=hP.fg.q.lt
 have hmml:=hP.fg.mp.lt
 have H:=Lib.hid (show PlI w lo qt bt L f fq m n 0 none []∧St w∧(∀ j,SX j→j < B∧j≠bt∧j≠m∧j≠fq)∧(∀ z z',z≠z'→∀ p ∈ QF z,∀ q ∈ QF z',p.2.id≠q.2.id)∧(∀ z,(QF z).length≤60) from ⟨hP,hSt,hSX,hdis,hQl⟩)
 generalize hPost:LvgPost lo qt bt L role tier g.zoom f fq m n K QF w=Post
 clear hcnt hn1 hpb hrt cb hP hSt hSX hdis hQl
 go_enter Tryz.func37,Tryz.ntmps37
 go_wp2_with fail
 go_step3
 go_wp2_with fail
 go_step3
 go_wp2_with fail
 go_at_call 82
 have hb2:Below w.heap.size w ((w.alloc (.cells #[.pointer Pp, .pointer Pc, .pointer (some ⟨qt,0,none⟩)] 38)).alloc (.cells #[.int .i64 role, .int .i64 tier, .int .i64 g.ops, .int .i64 g.zoom, .int .i64 g.a, .int .i64 g.b, .int .i64 g.c, .int .i64 g.d, .bool g.void, .int .i64 g.til] 28)):=((Below.refl _ _).alloc (Nat.le_refl _) _).alloc (by simp) _
 refine (PL.out _ hb2).mono ?_
 rintro e W ⟨⟨C1,cc1,xs,rfl,hints,hfar,hpw,hlev⟩,hT,hg⟩
 have hcW:Chg (fun j=>j=bt) w W:=(Chg.of (X:=fun j=>j=bt) hb2).trans (Chg.ofGrown (X:=fun j=>j=bt) hg (fun k hk=>by injection hk with hk;exact hk.symm)) (fun j hj => .inl hj)
 have hv8:∀ i,i < 10→W.cell? ⟨w.heap.size+1,i,none⟩=((w.alloc (.cells #[.pointer Pp, .pointer Pc, .pointer (some ⟨qt,0,none⟩)] 38)).alloc (.cells #[.int .i64 role, .int .i64 tier, .int .i64 g.ops, .int .i64 g.zoom, .int .i64 g.a, .int .i64 g.b, .int .i64 g.c, .int .i64 g.d, .bool g.void, .int .i64 g.til] 28)).cell? ⟨w.heap.size+1,i,none⟩:=fun i _=>hg.cell_far ⟨w.heap.size+1,i,none⟩ (by simp) (fun e=>by injection e with e;have e':w.heap.size+1=bt:=e;omega)
 have v0:W.cell? ⟨w.heap.size+1,0,none⟩=some (.int .i64 role):=(hv8 0 (by decide)).trans (by go_simp)
 have v1:W.cell? ⟨w.heap.size+1,1,none⟩=some (.int .i64 tier):=(hv8 1 (by decide)).trans (by go_simp)
 have v2:W.cell? ⟨w.heap.size+1,2,none⟩=some (.int .i64 g.ops):=(hv8 2 (by decide)).trans (by go_simp)
 have v3:W.cell? ⟨w.heap.size+1,3,none⟩=some (.int .i64 g.zoom):=(hv8 3 (by decide)).trans (by go_simp)
 have v4:W.cell? ⟨w.heap.size+1,4,none⟩=some (.int .i64 g.a):=(hv8 4 (by decide)).trans (by go_simp)
 have v5:W.cell? ⟨w.heap.size+1,5,none⟩=some (.int .i64 g.b):=(hv8 5 (by decide)).trans (by go_simp)
 have v6:W.cell? ⟨w.heap.size+1,6,none⟩=some (.int .i64 g.c):=(hv8 6 (by decide)).trans (by go_simp)
 have v7:W.cell? ⟨w.heap.size+1,7,none⟩=some (.int .i64 g.d):=(hv8 7 (by decide)).trans (by go_simp)
 have v8:W.cell? ⟨w.heap.size+1,8,none⟩=some (.bool g.void):=(hv8 8 (by decide)).trans (by go_simp)
 have v9:W.cell? ⟨w.heap.size+1,9,none⟩=some (.int .i64 g.til):=(hv8 9 (by decide)).trans (by go_simp)
 have hsW:=hg.size
 simp only [World.size_alloc] at hsW
 have hPW:PlI W lo qt bt L f fq m (n+8) 0 none []:=H.out.1.turn hcW hT
 have hxl:xs.length≤16:=by
  have h9:=lt_len xs 1 16 hpw (lev_rng hlev)
  omega
 obtain ⟨kx,hkx⟩:∃ k,xs.length=k:=⟨_,rfl⟩
 have HW:=Lib.hid (show PlI W lo qt bt L f fq m (n+8) 0 none []∧Chg (fun j=>j=bt) w W∧Ints W W.heap.size C1 xs∧(0 < xs.length→∀ a,C1=some a→w.heap.size≤a.block)∧xs.Pairwise (· < ·)∧LevL L role tier 8 xs∧xs.length=kx∧(W.cell? ⟨w.heap.size+1,0,none⟩=some (.int .i64 role)∧W.cell? ⟨w.heap.size+1,1,none⟩=some (.int .i64 tier)∧W.cell? ⟨w.heap.size+1,2,none⟩=some (.int .i64 g.ops)∧W.cell? ⟨w.heap.size+1,3,none⟩=some (.int .i64 g.zoom)∧W.cell? ⟨w.heap.size+1,4,none⟩=some (.int .i64 g.a)∧W.cell? ⟨w.heap.size+1,5,none⟩=some (.int .i64 g.b)∧W.cell? ⟨w.heap.size+1,6,none⟩=some (.int .i64 g.c)∧W.cell? ⟨w.heap.size+1,7,none⟩=some (.int .i64 g.d)∧W.cell? ⟨w.heap.size+1,8,none⟩=some (.bool g.void)∧W.cell? ⟨w.heap.size+1,9,none⟩=some (.int .i64 g.til)) from ⟨hPW,hcW,hints,(fun h a ha=>by have:=hfar h a ha;simp at this;omega),hpw,hlev,hkx,v0,v1,v2,v3,v4,v5,v6,v7,v8,v9⟩)
 rw [hkx] at hxl ⊢
 clear hints hfar hpw hlev hT hg hcW hv8 hb2 hPW hkx v0 v1 v2 v3 v4 v5 v6 v7 v8 v9
 go_wp2_with fail
 go_loopw [17] (fun i wr=>∃ j:Nat,i = .int .i64 j∧j≤kx∧W.heap.size≤wr.heap.size∧Hid (∃ n1 nf1 C1 P1,PlI wr lo qt bt L f fq m n1 nf1 C1 P1∧P1.Perm (allQ g.zoom QF (xs.take j))∧(n1≤n+8+j*K∧nf1≤j*K)∧Chg (CBX bt m fq none) W wr∧(∀ j,gP C1 j→W.heap.size≤j))) (fun i _=>kx - (intOf i).toNat)
 case atStart=>exact ⟨0,rfl,Nat.zero_le _,Nat.le_refl _,⟨n+8,0,none,[],HW.out.1,by simp [allQ],⟨by omega,by omega⟩,Chg.refl,fun j hj=>(by cases hj)⟩⟩
 case round=>
  obtain ⟨j,rfl,hjk,hsz,hrel⟩:=hrel
  obtain ⟨n1,nf1,C2,P1,hP1,hperm,⟨hn1',hnf1⟩,hc1,hC1⟩:=hrel.out
  by_cases hj:j < kx
  ·have hrl:j < xs.length:=by rw [HW.out.2.2.2.2.2.2.1];exact hj
   obtain ⟨bz,oz,hCz,hbz,hcz⟩:=HW.out.2.2.1 (by omega)
   have hfz:=HW.out.2.2.2.1 (by omega) _ hCz
   have hfz':w.heap.size≤bz:=hfz
   have hXn:∀ b,w.heap.size≤b→¬ CBX bt m fq none b:=fun b hb e=>by
    rcases e with e|e|e|e
    ·omega
    ·omega
    ·omega
    ·cases e
   have z0:wr.cell? ⟨bz,oz+j,none⟩=some (.int .i64 (xs.getD j 0)):=(hc1.cell (p:=⟨bz,oz+j,none⟩) hbz (hXn bz hfz')).trans (hcz j hrl)
   have hvv:∀ i,wr.cell? ⟨w.heap.size+1,i,none⟩=W.cell? ⟨w.heap.size+1,i,none⟩:=fun i=>hc1.cell (p:=⟨w.heap.size+1,i,none⟩) (by show w.heap.size+1 < _;omega) (hXn _ (by show w.heap.size≤w.heap.size+1;omega))
   obtain ⟨v0,v1,v2,v3,v4,v5,v6,v7,v8,v9⟩:=HW.out.2.2.2.2.2.2.2
   have v0:=(hvv 0).trans v0
   have v1:=(hvv 1).trans v1
   have v2:=(hvv 2).trans v2
   have v3:=(hvv 3).trans v3
   have v4:=(hvv 4).trans v4
   have v5:=(hvv 5).trans v5
   have v6:=(hvv 6).trans v6
   have v7:=(hvv 7).trans v7
   have v8:=(hvv 8).trans v8
   have v9:=(hvv 9).trans v9
   have htk:xs.take (j+1)=xs.take j ++ [xs.getD j 0]:=by
    rw [List.take_succ_eq_append_getElem hrl]
    simp [List.getD,List.getElem?_eq_getElem hrl]
   have hzx:xs.getD j 0 ∈ xs:=by simp [List.getD,List.getElem?_eq_getElem hrl]
   have hnt:∀ z' ∈ xs.take j,z'≠xs.getD j 0:=fun z' hz' e=>by
    have h9:=nodup_take (f:=fun x:Int=>x) (L:=xs) (by rw [List.map_id'];exact HW.out.2.2.2.2.1.imp (fun h=>Int.ne_of_lt h)) hrl z' hz'
    apply h9
    rw [e]
    simp [List.getD,List.getElem?_eq_getElem hrl]
   obtain ⟨z,hz⟩:∃ z,xs.getD j 0=z:=⟨_,rfl⟩
   rw [hz] at z0 htk hzx hnt
   have hzr:=lev_rng HW.out.2.2.2.2.2.1 z hzx
   have pvz:=PV.out z
   obtain ⟨lz,hlz⟩:∃ l,min z g.zoom=l:=⟨_,rfl⟩
   rw [hlz] at pvz
   have PVz:=Lib.hid pvz
   have hK9:n1+K≤350000:=by
    have:j*K≤17*K:=Nat.mul_le_mul_right K (by omega)
    omega
   have hK8:nf1≤400000:=by
    have:j*K≤17*K:=Nat.mul_le_mul_right K (by omega)
    omega
   have hjK:(j+1)*K=j*K+K:=by rw [Nat.add_mul,Nat.one_mul]
   have hSt1:=hst.st (hst.st H.out.2.1 HW.out.2.1 (fun b hb e=>(H.out.2.2.1 b hb).2.1 e)) hc1 (fun b hb e=>by
    have h9:=H.out.2.2.1 b hb
    rcases e with e|e|e|e
    ·exact h9.2.1 e
    ·exact h9.2.2.1 e
    ·exact h9.2.2.2 e
    ·cases e)
   have HR:=Lib.hid (show PlI wr lo qt bt L f fq m n1 nf1 C2 P1∧P1.Perm (allQ g.zoom QF (xs.take j))∧Chg (CBX bt m fq none) W wr∧(∀ j,gP C2 j→W.heap.size≤j)∧St wr∧xs.take (j+1)=xs.take j ++ [z]∧min z g.zoom=lz∧(∀ z' ∈ xs.take j,z'≠z) from ⟨hP1,hperm,hc1,hC1,hSt1,htk,hlz,hnt⟩)
   clear hrel hP1 hperm hc1 hC1 hcz hfz hXn hvv htk hzx hnt hz pvz hSt1
   subst hCz
   by_cases hl0:lz=0
   ·have HE:=Lib.hid (show ∀ W9,Below wr.heap.size wr W9→∃ n1 nf1 C1 P1,PlI W9 lo qt bt L f fq m n1 nf1 C1 P1∧P1.Perm (allQ g.zoom QF (xs.take (j+1)))∧(n1≤n+8+(j+1)*K∧nf1≤(j+1)*K)∧Chg (CBX bt m fq none) W W9∧(∀ j,gP C1 j→W.heap.size≤j) from fun W9 hb9=>⟨n1,nf1,C2,P1,HR.out.1.keep hb9,by rw [HR.out.2.2.2.2.2.1,allQ_snoc,if_pos (by rw [HR.out.2.2.2.2.2.2.1];exact hl0),List.append_nil];exact HR.out.2.1,⟨by omega,by omega⟩,HR.out.2.2.1.trans (Chg.of (X:=fun _=>False) hb9) (fun _ e=>e.elim),HR.out.2.2.2.1⟩)
    clear hlz
    subst hl0
    go_wp2_with (first
     | (go_at_call 27;refine (PVz.out _).mono ?_;rintro e w' ⟨rfl,hb⟩;obtain ⟨X1,rfl,hl1,hm1⟩:=later _ hb (Nat.le_refl _);clear hb;(try simp only [q9A,q9B,q9D] at hm1 hl1)))
    have hb9:Below wr.heap.size wr X1.w:=q9l
    have hs9:=hb9.size
    have HE1:=Lib.hid (HE.out _ hb9)
    clear hb9
    go_roundw
    case rel=>exact ⟨j+1,by go_num,by omega,by omega,HE1.out⟩
    case measure=>simp [intOf];omega
   ·have hlz0:(lz == 0)=false:=by simpa using hl0
    have pcb:=PC.out n1 nf1 C2 P1 z
    rw [HR.out.2.2.2.2.2.2.1] at pcb
    have PB:=Lib.hid (fun (Y:World) (hY:Below wr.heap.size wr Y)=>pcb Y (HR.out.1.keep hY) (hst.st (X:=fun _=>False) HR.out.2.2.2.2.1 (Chg.of hY) (fun _ _ e=>e)) (fun j hj=>by have:=HR.out.2.2.2.1 j hj;omega) (by have:=hY.size;omega) (by omega) (by omega) hl0 (fun p hp q hq=>by
     obtain ⟨z',hz',hp'⟩:=allQ_mem (HR.out.2.1.mem_iff.1 hp)
     exact H.out.2.2.2.1 z' z (HR.out.2.2.2.2.2.2.2 z' hz') p hp' q hq) hK9 hK8 (by
     have h9:=HR.out.2.1.length_eq
     have h8:=allQ_len (gz:=g.zoom) H.out.2.2.2.2 (xs.take j)
     rw [List.length_take] at h8
     omega))
    clear pcb
    go_wp2_with (first
     | (go_at_call 27;refine (PVz.out _).mono ?_;rintro e w' ⟨rfl,hb⟩;obtain ⟨X1,rfl,hl1,hm1⟩:=later _ hb (Nat.le_refl _);clear hb;(try simp only [q9A,q9B,q9D] at hm1 hl1)))
    have hb9:Below wr.heap.size wr X1.w:=q9l
    have hs9:=hb9.size
    refine (PB.out _ hb9).mono ?_
    rintro e w5 ⟨rfl,n5,nf5,C5,Q5,hP5,hQ5,hn5,hnf5,hc5,hC5⟩
    have hs5:=hc5.size
    have HE:=Lib.hid (show ∃ n1 nf1 C1 P1,PlI w5 lo qt bt L f fq m n1 nf1 C1 P1∧P1.Perm (allQ g.zoom QF (xs.take (j+1)))∧(n1≤n+8+(j+1)*K∧nf1≤(j+1)*K)∧Chg (CBX bt m fq none) W w5∧(∀ j,gP C1 j→W.heap.size≤j) from ⟨n5,nf5,C5,Q5 ++ P1,hP5,by
     rw [HR.out.2.2.2.2.2.1,allQ_snoc,if_neg (by rw [HR.out.2.2.2.2.2.2.1];exact hl0)]
     exact (List.Perm.append hQ5 HR.out.2.1).trans List.perm_append_comm,⟨by omega,by omega⟩,(HR.out.2.2.1.trans (Chg.of (X:=fun _=>False) hb9) (fun _ e=>e.elim)).trans hc5 (fun j hj=>by
     rcases hj with e|e|e|e
     ·exact .inl (.inl e)
     ·exact .inl (.inr (.inl e))
     ·exact .inl (.inr (.inr (.inl e)))
     ·exact .inr (HR.out.2.2.2.1 j e)),fun j hj=>(hC5 j hj).elim (HR.out.2.2.2.1 j) (fun e=>by omega)⟩)
    clear hP5 hQ5 hn5 hnf5 hc5 hC5 hb9
    go_wp2_with fail
    go_roundw
    case rel=>exact ⟨j+1,by go_num,by omega,by omega,HE.out⟩
    case measure=>simp [intOf];omega
  ·obtain rfl:j=kx:=by omega
   have hdj:decide ((j:Int) < (j:Int))=false:=decide_eq_false (by omega)
   have HE:=Lib.hid (show Post (.returned (.tuple #[])) wr by
    rw [← hPost]
    refine ⟨rfl,n1,nf1,C2,P1,xs,HW.out.2.2.2.2.1,HW.out.2.2.2.2.2.1,hP1,?_,?_,(HW.out.2.1.mono (X':=CBX bt m fq none) (fun j hj => .inl (.inl hj))).trans hc1 (fun j hj => .inl hj),fun j hj=>by have:=hC1 j hj;omega⟩
    ·rw [show xs.take j=xs by rw [← HW.out.2.2.2.2.2.2.1,List.take_length]] at hperm
     exact hperm
    ·have:j*K≤17*K:=Nat.mul_le_mul_right K (by omega)
     omega)
   clear hrel hP1 hperm hc1 hC1
   go_wp2_with fail
   (try rw [Exit.noGoto_ret])
   exact bodyPost_end (v := .tuple #[]) (by first|rfl|kernel_rfl) rfl HE.out
set_option maxHeartbeats 16000000 in
theorem levels_nearc (lo qt bt:Nat) (L:List Rl) (Pp Pc:Option Addr) (role tier:Int) (g:Gr) (f fq m n K B:Nat) (p0 p1 p2 p3 p4:Nat) (St:World→Prop) (SX:Nat→Prop) (hst:Stab St SX) (QF:Int→List (Int × Sn)) (w:World) (cb:CbOk 51 #[.pointer (some ⟨p0,0,none⟩), .pointer (some ⟨p1,0,none⟩), .pointer (some ⟨p2,0,none⟩), .pointer (some ⟨p3,0,none⟩), .pointer (some ⟨p4,0,none⟩)] lo qt bt L f fq m K B g.zoom St QF)
  (hSX:∀ j,SX j→j < B∧j≠bt∧j≠m∧j≠fq) (hP:PlI w lo qt bt L f fq m n 0 none []) (hSt:St w) (hBw:B≤w.heap.size) (hcnt:cntB L≤1048576) (hn1:L.length≤1000000) (hpb:patsB L≤100000000000000) (hrt:(0≤role∧role≤7)∧0≤tier∧tier≤7) (hgz:0≤g.zoom∧g.zoom≤16)
  (hdis:∀ z z',z≠z'→∀ p ∈ QF z,∀ q ∈ QF z',p.2.id≠q.2.id) (hQl:∀ z,(QF z).length≤60) (hn:n+8+18*K≤350000) (hfB:f < w.heap.size):
  Calls Tryz.prog 37 #[(.agg #[.pointer Pp, .pointer Pc, .pointer (some ⟨qt,0,none⟩)]),(.agg #[.int .i64 role, .int .i64 tier, .int .i64 g.ops, .int .i64 g.zoom, .int .i64 g.a, .int .i64 g.b, .int .i64 g.c, .int .i64 g.d, .bool g.void, .int .i64 g.til]), .func (.func 51) #[] #[.pointer (some ⟨p0,0,none⟩), .pointer (some ⟨p1,0,none⟩), .pointer (some ⟨p2,0,none⟩), .pointer (some ⟨p3,0,none⟩), .pointer (some ⟨p4,0,none⟩)]] w (LvgPost lo qt bt L role tier g.zoom f fq m n K QF w):=by
 have PL:=Lib.hid (fun (Y:World) (hY:Below w.heap.size w Y)=>levels_any (gU (fun j=>j=fq∨j=m) none) lo qt bt n L role tier Y (hP.tb.keep hY) (fun x e=>Nat.lt_of_lt_of_le (hP.gw x e) hY.size) (by omega) hrt.1 hrt.2 hcnt hn1 hpb)
 have PV:=Lib.hid (fun (z:Int) (Y:World)=>plevel_any role tier z g Y)
 have PC:=Lib.hid cb
 have hbl:=hP.ltb
 have hnbt:=hP.nbt
 have hfql:=hP.fg.q.lt
 have hmml:=hP.fg.mp.lt
 have H:=Lib.hid (show PlI w lo qt bt L f fq m n 0 none []∧St w∧(∀ j,SX j→j < B∧j≠bt∧j≠m∧j≠fq)∧(∀ z z',z≠z'→∀ p ∈ QF z,∀ q ∈ QF z',p.2.id≠q.2.id)∧(∀ z,(QF z).length≤60) from ⟨hP,hSt,hSX,hdis,hQl⟩)
 generalize hPost:LvgPost lo qt bt L role tier g.zoom f fq m n K QF w=Post
 clear hcnt hn1 hpb hrt cb hP hSt hSX hdis hQl
 go_enter Tryz.func37,Tryz.ntmps37
 go_wp2_with fail
 go_step3
 go_wp2_with fail
 go_step3
 go_wp2_with fail
 go_at_call 82
 have hb2:Below w.heap.size w ((w.alloc (.cells #[.pointer Pp, .pointer Pc, .pointer (some ⟨qt,0,none⟩)] 38)).alloc (.cells #[.int .i64 role, .int .i64 tier, .int .i64 g.ops, .int .i64 g.zoom, .int .i64 g.a, .int .i64 g.b, .int .i64 g.c, .int .i64 g.d, .bool g.void, .int .i64 g.til] 28)):=((Below.refl _ _).alloc (Nat.le_refl _) _).alloc (by simp) _
 refine (PL.out _ hb2).mono ?_
 rintro e W ⟨⟨C1,cc1,xs,rfl,hints,hfar,hpw,hlev⟩,hT,hg⟩
 have hcW:Chg (fun j=>j=bt) w W:=(Chg.of (X:=fun j=>j=bt) hb2).trans (Chg.ofGrown (X:=fun j=>j=bt) hg (fun k hk=>by injection hk with hk;exact hk.symm)) (fun j hj => .inl hj)
 have hv8:∀ i,i < 10→W.cell? ⟨w.heap.size+1,i,none⟩=((w.alloc (.cells #[.pointer Pp, .pointer Pc, .pointer (some ⟨qt,0,none⟩)] 38)).alloc (.cells #[.int .i64 role, .int .i64 tier, .int .i64 g.ops, .int .i64 g.zoom, .int .i64 g.a, .int .i64 g.b, .int .i64 g.c, .int .i64 g.d, .bool g.void, .int .i64 g.til] 28)).cell? ⟨w.heap.size+1,i,none⟩:=fun i _=>hg.cell_far ⟨w.heap.size+1,i,none⟩ (by simp) (fun e=>by injection e with e;have e':w.heap.size+1=bt:=e;omega)
 have v0:W.cell? ⟨w.heap.size+1,0,none⟩=some (.int .i64 role):=(hv8 0 (by decide)).trans (by go_simp)
 have v1:W.cell? ⟨w.heap.size+1,1,none⟩=some (.int .i64 tier):=(hv8 1 (by decide)).trans (by go_simp)
 have v2:W.cell? ⟨w.heap.size+1,2,none⟩=some (.int .i64 g.ops):=(hv8 2 (by decide)).trans (by go_simp)
 have v3:W.cell? ⟨w.heap.size+1,3,none⟩=some (.int .i64 g.zoom):=(hv8 3 (by decide)).trans (by go_simp)
 have v4:W.cell? ⟨w.heap.size+1,4,none⟩=some (.int .i64 g.a):=(hv8 4 (by decide)).trans (by go_simp)
 have v5:W.cell? ⟨w.heap.size+1,5,none⟩=some (.int .i64 g.b):=(hv8 5 (by decide)).trans (by go_simp)
 have v6:W.cell? ⟨w.heap.size+1,6,none⟩=some (.int .i64 g.c):=(hv8 6 (by decide)).trans (by go_simp)
 have v7:W.cell? ⟨w.heap.size+1,7,none⟩=some (.int .i64 g.d):=(hv8 7 (by decide)).trans (by go_simp)
 have v8:W.cell? ⟨w.heap.size+1,8,none⟩=some (.bool g.void):=(hv8 8 (by decide)).trans (by go_simp)
 have v9:W.cell? ⟨w.heap.size+1,9,none⟩=some (.int .i64 g.til):=(hv8 9 (by decide)).trans (by go_simp)
 have hsW:=hg.size
 simp only [World.size_alloc] at hsW
 have hPW:PlI W lo qt bt L f fq m (n+8) 0 none []:=H.out.1.turn hcW hT
 have hxl:xs.length≤16:=by
  have h9:=lt_len xs 1 16 hpw (lev_rng hlev)
  omega
 obtain ⟨kx,hkx⟩:∃ k,xs.length=k:=⟨_,rfl⟩
 have HW:=Lib.hid (show PlI W lo qt bt L f fq m (n+8) 0 none []∧Chg (fun j=>j=bt) w W∧Ints W W.heap.size C1 xs∧(0 < xs.length→∀ a,C1=some a→w.heap.size≤a.block)∧xs.Pairwise (· < ·)∧LevL L role tier 8 xs∧xs.length=kx∧(W.cell? ⟨w.heap.size+1,0,none⟩=some (.int .i64 role)∧W.cell? ⟨w.heap.size+1,1,none⟩=some (.int .i64 tier)∧W.cell? ⟨w.heap.size+1,2,none⟩=some (.int .i64 g.ops)∧W.cell? ⟨w.heap.size+1,3,none⟩=some (.int .i64 g.zoom)∧W.cell? ⟨w.heap.size+1,4,none⟩=some (.int .i64 g.a)∧W.cell? ⟨w.heap.size+1,5,none⟩=some (.int .i64 g.b)∧W.cell? ⟨w.heap.size+1,6,none⟩=some (.int .i64 g.c)∧W.cell? ⟨w.heap.size+1,7,none⟩=some (.int .i64 g.d)∧W.cell? ⟨w.heap.size+1,8,none⟩=some (.bool g.void)∧W.cell? ⟨w.heap.size+1,9,none⟩=some (.int .i64 g.til)) from ⟨hPW,hcW,hints,(fun h a ha=>by have:=hfar h a ha;simp at this;omega),hpw,hlev,hkx,v0,v1,v2,v3,v4,v5,v6,v7,v8,v9⟩)
 rw [hkx] at hxl ⊢
 clear hints hfar hpw hlev hT hg hcW hv8 hb2 hPW hkx v0 v1 v2 v3 v4 v5 v6 v7 v8 v9
 go_wp2_with fail
 go_loopw [17] (fun i wr=>∃ j:Nat,i = .int .i64 j∧j≤kx∧W.heap.size≤wr.heap.size∧Hid (∃ n1 nf1 C1 P1,PlI wr lo qt bt L f fq m n1 nf1 C1 P1∧P1.Perm (allQ g.zoom QF (xs.take j))∧(n1≤n+8+j*K∧nf1≤j*K)∧Chg (CBX bt m fq none) W wr∧(∀ j,gP C1 j→W.heap.size≤j))) (fun i _=>kx - (intOf i).toNat)
 case atStart=>exact ⟨0,rfl,Nat.zero_le _,Nat.le_refl _,⟨n+8,0,none,[],HW.out.1,by simp [allQ],⟨by omega,by omega⟩,Chg.refl,fun j hj=>(by cases hj)⟩⟩
 case round=>
  obtain ⟨j,rfl,hjk,hsz,hrel⟩:=hrel
  obtain ⟨n1,nf1,C2,P1,hP1,hperm,⟨hn1',hnf1⟩,hc1,hC1⟩:=hrel.out
  by_cases hj:j < kx
  ·have hrl:j < xs.length:=by rw [HW.out.2.2.2.2.2.2.1];exact hj
   obtain ⟨bz,oz,hCz,hbz,hcz⟩:=HW.out.2.2.1 (by omega)
   have hfz:=HW.out.2.2.2.1 (by omega) _ hCz
   have hfz':w.heap.size≤bz:=hfz
   have hXn:∀ b,w.heap.size≤b→¬ CBX bt m fq none b:=fun b hb e=>by
    rcases e with e|e|e|e
    ·omega
    ·omega
    ·omega
    ·cases e
   have z0:wr.cell? ⟨bz,oz+j,none⟩=some (.int .i64 (xs.getD j 0)):=(hc1.cell (p:=⟨bz,oz+j,none⟩) hbz (hXn bz hfz')).trans (hcz j hrl)
   have hvv:∀ i,wr.cell? ⟨w.heap.size+1,i,none⟩=W.cell? ⟨w.heap.size+1,i,none⟩:=fun i=>hc1.cell (p:=⟨w.heap.size+1,i,none⟩) (by show w.heap.size+1 < _;omega) (hXn _ (by show w.heap.size≤w.heap.size+1;omega))
   obtain ⟨v0,v1,v2,v3,v4,v5,v6,v7,v8,v9⟩:=HW.out.2.2.2.2.2.2.2
   have v0:=(hvv 0).trans v0
   have v1:=(hvv 1).trans v1
   have v2:=(hvv 2).trans v2
   have v3:=(hvv 3).trans v3
   have v4:=(hvv 4).trans v4
   have v5:=(hvv 5).trans v5
   have v6:=(hvv 6).trans v6
   have v7:=(hvv 7).trans v7
   have v8:=(hvv 8).trans v8
   have v9:=(hvv 9).trans v9
   have htk:xs.take (j+1)=xs.take j ++ [xs.getD j 0]:=by
    rw [List.take_succ_eq_append_getElem hrl]
    simp [List.getD,List.getElem?_eq_getElem hrl]
   have hzx:xs.getD j 0 ∈ xs:=by simp [List.getD,List.getElem?_eq_getElem hrl]
   have hnt:∀ z' ∈ xs.take j,z'≠xs.getD j 0:=fun z' hz' e=>by
    have h9:=nodup_take (f:=fun x:Int=>x) (L:=xs) (by rw [List.map_id'];exact HW.out.2.2.2.2.1.imp (fun h=>Int.ne_of_lt h)) hrl z' hz'
    apply h9
    rw [e]
    simp [List.getD,List.getElem?_eq_getElem hrl]
   obtain ⟨z,hz⟩:∃ z,xs.getD j 0=z:=⟨_,rfl⟩
   rw [hz] at z0 htk hzx hnt
   have hzr:=lev_rng HW.out.2.2.2.2.2.1 z hzx
   have pvz:=PV.out z
   obtain ⟨lz,hlz⟩:∃ l,min z g.zoom=l:=⟨_,rfl⟩
   rw [hlz] at pvz
   have PVz:=Lib.hid pvz
   have hK9:n1+K≤350000:=by
    have:j*K≤17*K:=Nat.mul_le_mul_right K (by omega)
    omega
   have hK8:nf1≤400000:=by
    have:j*K≤17*K:=Nat.mul_le_mul_right K (by omega)
    omega
   have hjK:(j+1)*K=j*K+K:=by rw [Nat.add_mul,Nat.one_mul]
   have hSt1:=hst.st (hst.st H.out.2.1 HW.out.2.1 (fun b hb e=>(H.out.2.2.1 b hb).2.1 e)) hc1 (fun b hb e=>by
    have h9:=H.out.2.2.1 b hb
    rcases e with e|e|e|e
    ·exact h9.2.1 e
    ·exact h9.2.2.1 e
    ·exact h9.2.2.2 e
    ·cases e)
   have HR:=Lib.hid (show PlI wr lo qt bt L f fq m n1 nf1 C2 P1∧P1.Perm (allQ g.zoom QF (xs.take j))∧Chg (CBX bt m fq none) W wr∧(∀ j,gP C2 j→W.heap.size≤j)∧St wr∧xs.take (j+1)=xs.take j ++ [z]∧min z g.zoom=lz∧(∀ z' ∈ xs.take j,z'≠z) from ⟨hP1,hperm,hc1,hC1,hSt1,htk,hlz,hnt⟩)
   clear hrel hP1 hperm hc1 hC1 hcz hfz hXn hvv htk hzx hnt hz pvz hSt1
   subst hCz
   by_cases hl0:lz=0
   ·have HE:=Lib.hid (show ∀ W9,Below wr.heap.size wr W9→∃ n1 nf1 C1 P1,PlI W9 lo qt bt L f fq m n1 nf1 C1 P1∧P1.Perm (allQ g.zoom QF (xs.take (j+1)))∧(n1≤n+8+(j+1)*K∧nf1≤(j+1)*K)∧Chg (CBX bt m fq none) W W9∧(∀ j,gP C1 j→W.heap.size≤j) from fun W9 hb9=>⟨n1,nf1,C2,P1,HR.out.1.keep hb9,by rw [HR.out.2.2.2.2.2.1,allQ_snoc,if_pos (by rw [HR.out.2.2.2.2.2.2.1];exact hl0),List.append_nil];exact HR.out.2.1,⟨by omega,by omega⟩,HR.out.2.2.1.trans (Chg.of (X:=fun _=>False) hb9) (fun _ e=>e.elim),HR.out.2.2.2.1⟩)
    clear hlz
    subst hl0
    go_wp2_with (first
     | (go_at_call 27;refine (PVz.out _).mono ?_;rintro e w' ⟨rfl,hb⟩;obtain ⟨X1,rfl,hl1,hm1⟩:=later _ hb (Nat.le_refl _);clear hb;(try simp only [q9A,q9B,q9D] at hm1 hl1)))
    have hb9:Below wr.heap.size wr X1.w:=q9l
    have hs9:=hb9.size
    have HE1:=Lib.hid (HE.out _ hb9)
    clear hb9
    go_roundw
    case rel=>exact ⟨j+1,by go_num,by omega,by omega,HE1.out⟩
    case measure=>simp [intOf];omega
   ·have hlz0:(lz == 0)=false:=by simpa using hl0
    have pcb:=PC.out n1 nf1 C2 P1 z
    rw [HR.out.2.2.2.2.2.2.1] at pcb
    have PB:=Lib.hid (fun (Y:World) (hY:Below wr.heap.size wr Y)=>pcb Y (HR.out.1.keep hY) (hst.st (X:=fun _=>False) HR.out.2.2.2.2.1 (Chg.of hY) (fun _ _ e=>e)) (fun j hj=>by have:=HR.out.2.2.2.1 j hj;omega) (by have:=hY.size;omega) (by omega) (by omega) hl0 (fun p hp q hq=>by
     obtain ⟨z',hz',hp'⟩:=allQ_mem (HR.out.2.1.mem_iff.1 hp)
     exact H.out.2.2.2.1 z' z (HR.out.2.2.2.2.2.2.2 z' hz') p hp' q hq) hK9 hK8 (by
     have h9:=HR.out.2.1.length_eq
     have h8:=allQ_len (gz:=g.zoom) H.out.2.2.2.2 (xs.take j)
     rw [List.length_take] at h8
     omega))
    clear pcb
    go_wp2_with (first
     | (go_at_call 27;refine (PVz.out _).mono ?_;rintro e w' ⟨rfl,hb⟩;obtain ⟨X1,rfl,hl1,hm1⟩:=later _ hb (Nat.le_refl _);clear hb;(try simp only [q9A,q9B,q9D] at hm1 hl1)))
    have hb9:Below wr.heap.size wr X1.w:=q9l
    have hs9:=hb9.size
    refine (PB.out _ hb9).mono ?_
    rintro e w5 ⟨rfl,n5,nf5,C5,Q5,hP5,hQ5,hn5,hnf5,hc5,hC5⟩
    have hs5:=hc5.size
    have HE:=Lib.hid (show ∃ n1 nf1 C1 P1,PlI w5 lo qt bt L f fq m n1 nf1 C1 P1∧P1.Perm (allQ g.zoom QF (xs.take (j+1)))∧(n1≤n+8+(j+1)*K∧nf1≤(j+1)*K)∧Chg (CBX bt m fq none) W w5∧(∀ j,gP C1 j→W.heap.size≤j) from ⟨n5,nf5,C5,Q5 ++ P1,hP5,by
     rw [HR.out.2.2.2.2.2.1,allQ_snoc,if_neg (by rw [HR.out.2.2.2.2.2.2.1];exact hl0)]
     exact (List.Perm.append hQ5 HR.out.2.1).trans List.perm_append_comm,⟨by omega,by omega⟩,(HR.out.2.2.1.trans (Chg.of (X:=fun _=>False) hb9) (fun _ e=>e.elim)).trans hc5 (fun j hj=>by
     rcases hj with e|e|e|e
     ·exact .inl (.inl e)
     ·exact .inl (.inr (.inl e))
     ·exact .inl (.inr (.inr (.inl e)))
     ·exact .inr (HR.out.2.2.2.1 j e)),fun j hj=>(hC5 j hj).elim (HR.out.2.2.2.1 j) (fun e=>by omega)⟩)
    clear hP5 hQ5 hn5 hnf5 hc5 hC5 hb9
    go_wp2_with fail
    go_roundw
    case rel=>exact ⟨j+1,by go_num,by omega,by omega,HE.out⟩
    case measure=>simp [intOf];omega
  ·obtain rfl:j=kx:=by omega
   have hdj:decide ((j:Int) < (j:Int))=false:=decide_eq_false (by omega)
   have HE:=Lib.hid (show Post (.returned (.tuple #[])) wr by
    rw [← hPost]
    refine ⟨rfl,n1,nf1,C2,P1,xs,HW.out.2.2.2.2.1,HW.out.2.2.2.2.2.1,hP1,?_,?_,(HW.out.2.1.mono (X':=CBX bt m fq none) (fun j hj => .inl (.inl hj))).trans hc1 (fun j hj => .inl hj),fun j hj=>by have:=hC1 j hj;omega⟩
    ·rw [show xs.take j=xs by rw [← HW.out.2.2.2.2.2.2.1,List.take_length]] at hperm
     exact hperm
    ·have:j*K≤17*K:=Nat.mul_le_mul_right K (by omega)
     omega)
   clear hrel hP1 hperm hc1 hC1
   go_wp2_with fail
   (try rw [Exit.noGoto_ret])
   exact bodyPost_end (v := .tuple #[]) (by first|rfl|kernel_rfl) rfl HE.out
set_option maxHeartbeats 16000000 in
theorem levels_clk (lo qt bt:Nat) (L:List Rl) (Pp Pc:Option Addr) (role tier:Int) (g:Gr) (f fq m n K B:Nat) (p0 p1 p2 p3:Nat) (St:World→Prop) (SX:Nat→Prop) (hst:Stab St SX) (QF:Int→List (Int × Sn)) (w:World) (cb:CbOk 47 #[.pointer (some ⟨p0,0,none⟩), .pointer (some ⟨p1,0,none⟩), .pointer (some ⟨p2,0,none⟩), .pointer (some ⟨p3,0,none⟩)] lo qt bt L f fq m K B g.zoom St QF)
  (hSX:∀ j,SX j→j < B∧j≠bt∧j≠m∧j≠fq) (hP:PlI w lo qt bt L f fq m n 0 none []) (hSt:St w) (hBw:B≤w.heap.size) (hcnt:cntB L≤1048576) (hn1:L.length≤1000000) (hpb:patsB L≤100000000000000) (hrt:(0≤role∧role≤7)∧0≤tier∧tier≤7) (hgz:0≤g.zoom∧g.zoom≤16)
  (hdis:∀ z z',z≠z'→∀ p ∈ QF z,∀ q ∈ QF z',p.2.id≠q.2.id) (hQl:∀ z,(QF z).length≤60) (hn:n+8+18*K≤350000) (hfB:f < w.heap.size):
  Calls Tryz.prog 37 #[(.agg #[.pointer Pp, .pointer Pc, .pointer (some ⟨qt,0,none⟩)]),(.agg #[.int .i64 role, .int .i64 tier, .int .i64 g.ops, .int .i64 g.zoom, .int .i64 g.a, .int .i64 g.b, .int .i64 g.c, .int .i64 g.d, .bool g.void, .int .i64 g.til]), .func (.func 47) #[] #[.pointer (some ⟨p0,0,none⟩), .pointer (some ⟨p1,0,none⟩), .pointer (some ⟨p2,0,none⟩), .pointer (some ⟨p3,0,none⟩)]] w (LvgPost lo qt bt L role tier g.zoom f fq m n K QF w):=by
 have PL:=Lib.hid (fun (Y:World) (hY:Below w.heap.size w Y)=>levels_any (gU (fun j=>j=fq∨j=m) none) lo qt bt n L role tier Y (hP.tb.keep hY) (fun x e=>Nat.lt_of_lt_of_le (hP.gw x e) hY.size) (by omega) hrt.1 hrt.2 hcnt hn1 hpb)
 have PV:=Lib.hid (fun (z:Int) (Y:World)=>plevel_any role tier z g Y)
 have PC:=Lib.hid cb
 have hbl:=hP.ltb
 have hnbt:=hP.nbt
 have hfql:=hP.fg.q.lt
 have hmml:=hP.fg.mp.lt
 have H:=Lib.hid (show PlI w lo qt bt L f fq m n 0 none []∧St w∧(∀ j,SX j→j < B∧j≠bt∧j≠m∧j≠fq)∧(∀ z z',z≠z'→∀ p ∈ QF z,∀ q ∈ QF z',p.2.id≠q.2.id)∧(∀ z,(QF z).length≤60) from ⟨hP,hSt,hSX,hdis,hQl⟩)
 generalize hPost:LvgPost lo qt bt L role tier g.zoom f fq m n K QF w=Post
 clear hcnt hn1 hpb hrt cb hP hSt hSX hdis hQl
 go_enter Tryz.func37,Tryz.ntmps37
 go_wp2_with fail
 go_step3
 go_wp2_with fail
 go_step3
 go_wp2_with fail
 go_at_call 82
 have hb2:Below w.heap.size w ((w.alloc (.cells #[.pointer Pp, .pointer Pc, .pointer (some ⟨qt,0,none⟩)] 38)).alloc (.cells #[.int .i64 role, .int .i64 tier, .int .i64 g.ops, .int .i64 g.zoom, .int .i64 g.a, .int .i64 g.b, .int .i64 g.c, .int .i64 g.d, .bool g.void, .int .i64 g.til] 28)):=((Below.refl _ _).alloc (Nat.le_refl _) _).alloc (by simp) _
 refine (PL.out _ hb2).mono ?_
 rintro e W ⟨⟨C1,cc1,xs,rfl,hints,hfar,hpw,hlev⟩,hT,hg⟩
 have hcW:Chg (fun j=>j=bt) w W:=(Chg.of (X:=fun j=>j=bt) hb2).trans (Chg.ofGrown (X:=fun j=>j=bt) hg (fun k hk=>by injection hk with hk;exact hk.symm)) (fun j hj => .inl hj)
 have hv8:∀ i,i < 10→W.cell? ⟨w.heap.size+1,i,none⟩=((w.alloc (.cells #[.pointer Pp, .pointer Pc, .pointer (some ⟨qt,0,none⟩)] 38)).alloc (.cells #[.int .i64 role, .int .i64 tier, .int .i64 g.ops, .int .i64 g.zoom, .int .i64 g.a, .int .i64 g.b, .int .i64 g.c, .int .i64 g.d, .bool g.void, .int .i64 g.til] 28)).cell? ⟨w.heap.size+1,i,none⟩:=fun i _=>hg.cell_far ⟨w.heap.size+1,i,none⟩ (by simp) (fun e=>by injection e with e;have e':w.heap.size+1=bt:=e;omega)
 have v0:W.cell? ⟨w.heap.size+1,0,none⟩=some (.int .i64 role):=(hv8 0 (by decide)).trans (by go_simp)
 have v1:W.cell? ⟨w.heap.size+1,1,none⟩=some (.int .i64 tier):=(hv8 1 (by decide)).trans (by go_simp)
 have v2:W.cell? ⟨w.heap.size+1,2,none⟩=some (.int .i64 g.ops):=(hv8 2 (by decide)).trans (by go_simp)
 have v3:W.cell? ⟨w.heap.size+1,3,none⟩=some (.int .i64 g.zoom):=(hv8 3 (by decide)).trans (by go_simp)
 have v4:W.cell? ⟨w.heap.size+1,4,none⟩=some (.int .i64 g.a):=(hv8 4 (by decide)).trans (by go_simp)
 have v5:W.cell? ⟨w.heap.size+1,5,none⟩=some (.int .i64 g.b):=(hv8 5 (by decide)).trans (by go_simp)
 have v6:W.cell? ⟨w.heap.size+1,6,none⟩=some (.int .i64 g.c):=(hv8 6 (by decide)).trans (by go_simp)
 have v7:W.cell? ⟨w.heap.size+1,7,none⟩=some (.int .i64 g.d):=(hv8 7 (by decide)).trans (by go_simp)
 have v8:W.cell? ⟨w.heap.size+1,8,none⟩=some (.bool g.void):=(hv8 8 (by decide)).trans (by go_simp)
 have v9:W.cell? ⟨w.heap.size+1,9,none⟩=some (.int .i64 g.til):=(hv8 9 (by decide)).trans (by go_simp)
 have hsW:=hg.size
 simp only [World.size_alloc] at hsW
 have hPW:PlI W lo qt bt L f fq m (n+8) 0 none []:=H.out.1.turn hcW hT
 have hxl:xs.length≤16:=by
  have h9:=lt_len xs 1 16 hpw (lev_rng hlev)
  omega
 obtain ⟨kx,hkx⟩:∃ k,xs.length=k:=⟨_,rfl⟩
 have HW:=Lib.hid (show PlI W lo qt bt L f fq m (n+8) 0 none []∧Chg (fun j=>j=bt) w W∧Ints W W.heap.size C1 xs∧(0 < xs.length→∀ a,C1=some a→w.heap.size≤a.block)∧xs.Pairwise (· < ·)∧LevL L role tier 8 xs∧xs.length=kx∧(W.cell? ⟨w.heap.size+1,0,none⟩=some (.int .i64 role)∧W.cell? ⟨w.heap.size+1,1,none⟩=some (.int .i64 tier)∧W.cell? ⟨w.heap.size+1,2,none⟩=some (.int .i64 g.ops)∧W.cell? ⟨w.heap.size+1,3,none⟩=some (.int .i64 g.zoom)∧W.cell? ⟨w.heap.size+1,4,none⟩=some (.int .i64 g.a)∧W.cell? ⟨w.heap.size+1,5,none⟩=some (.int .i64 g.b)∧W.cell? ⟨w.heap.size+1,6,none⟩=some (.int .i64 g.c)∧W.cell? ⟨w.heap.size+1,7,none⟩=some (.int .i64 g.d)∧W.cell? ⟨w.heap.size+1,8,none⟩=some (.bool g.void)∧W.cell? ⟨w.heap.size+1,9,none⟩=some (.int .i64 g.til)) from ⟨hPW,hcW,hints,(fun h a ha=>by have:=hfar h a ha;simp at this;omega),hpw,hlev,hkx,v0,v1,v2,v3,v4,v5,v6,v7,v8,v9⟩)
 rw [hkx] at hxl ⊢
 clear hints hfar hpw hlev hT hg hcW hv8 hb2 hPW hkx v0 v1 v2 v3 v4 v5 v6 v7 v8 v9
 go_wp2_with fail
 go_loopw [17] (fun i wr=>∃ j:Nat,i = .int .i64 j∧j≤kx∧W.heap.size≤wr.heap.size∧Hid (∃ n1 nf1 C1 P1,PlI wr lo qt bt L f fq m n1 nf1 C1 P1∧P1.Perm (allQ g.zoom QF (xs.take j))∧(n1≤n+8+j*K∧nf1≤j*K)∧Chg (CBX bt m fq none) W wr∧(∀ j,gP C1 j→W.heap.size≤j))) (fun i _=>kx - (intOf i).toNat)
 case atStart=>exact ⟨0,rfl,Nat.zero_le _,Nat.le_refl _,⟨n+8,0,none,[],HW.out.1,by simp [allQ],⟨by omega,by omega⟩,Chg.refl,fun j hj=>(by cases hj)⟩⟩
 case round=>
  obtain ⟨j,rfl,hjk,hsz,hrel⟩:=hrel
  obtain ⟨n1,nf1,C2,P1,hP1,hperm,⟨hn1',hnf1⟩,hc1,hC1⟩:=hrel.out
  by_cases hj:j < kx
  ·have hrl:j < xs.length:=by rw [HW.out.2.2.2.2.2.2.1];exact hj
   obtain ⟨bz,oz,hCz,hbz,hcz⟩:=HW.out.2.2.1 (by omega)
   have hfz:=HW.out.2.2.2.1 (by omega) _ hCz
   have hfz':w.heap.size≤bz:=hfz
   have hXn:∀ b,w.heap.size≤b→¬ CBX bt m fq none b:=fun b hb e=>by
    rcases e with e|e|e|e
    ·omega
    ·omega
    ·omega
    ·cases e
   have z0:wr.cell? ⟨bz,oz+j,none⟩=some (.int .i64 (xs.getD j 0)):=(hc1.cell (p:=⟨bz,oz+j,none⟩) hbz (hXn bz hfz')).trans (hcz j hrl)
   have hvv:∀ i,wr.cell? ⟨w.heap.size+1,i,none⟩=W.cell? ⟨w.heap.size+1,i,none⟩:=fun i=>hc1.cell (p:=⟨w.heap.size+1,i,none⟩) (by show w.heap.size+1 < _;omega) (hXn _ (by show w.heap.size≤w.heap.size+1;omega))
   obtain ⟨v0,v1,v2,v3,v4,v5,v6,v7,v8,v9⟩:=HW.out.2.2.2.2.2.2.2
   have v0:=(hvv 0).trans v0
   have v1:=(hvv 1).trans v1
   have v2:=(hvv 2).trans v2
   have v3:=(hvv 3).trans v3
   have v4:=(hvv 4).trans v4
   have v5:=(hvv 5).trans v5
   have v6:=(hvv 6).trans v6
   have v7:=(hvv 7).trans v7
   have v8:=(hvv 8).trans v8
   have v9:=(hvv 9).trans v9
   have htk:xs.take (j+1)=xs.take j ++ [xs.getD j 0]:=by
    rw [List.take_succ_eq_append_getElem hrl]
    simp [List.getD,List.getElem?_eq_getElem hrl]
   have hzx:xs.getD j 0 ∈ xs:=by simp [List.getD,List.getElem?_eq_getElem hrl]
   have hnt:∀ z' ∈ xs.take j,z'≠xs.getD j 0:=fun z' hz' e=>by
    have h9:=nodup_take (f:=fun x:Int=>x) (L:=xs) (by rw [List.map_id'];exact HW.out.2.2.2.2.1.imp (fun h=>Int.ne_of_lt h)) hrl z' hz'
    apply h9
    rw [e]
    simp [List.getD,List.getElem?_eq_getElem hrl]
   obtain ⟨z,hz⟩:∃ z,xs.getD j 0=z:=⟨_,rfl⟩
   rw [hz] at z0 htk hzx hnt
   have hzr:=lev_rng HW.out.2.2.2.2.2.1 z hzx
   have pvz:=PV.out z
   obtain ⟨lz,hlz⟩:∃ l,min z g.zoom=l:=⟨_,rfl⟩
   rw [hlz] at pvz
   have PVz:=Lib.hid pvz
   have hK9:n1+K≤350000:=by
    have:j*K≤17*K:=Nat.mul_le_mul_right K (by omega)
    omega
   have hK8:nf1≤400000:=by
    have:j*K≤17*K:=Nat.mul_le_mul_right K (by omega)
    omega
   have hjK:(j+1)*K=j*K+K:=by rw [Nat.add_mul,Nat.one_mul]
   have hSt1:=hst.st (hst.st H.out.2.1 HW.out.2.1 (fun b hb e=>(H.out.2.2.1 b hb).2.1 e)) hc1 (fun b hb e=>by
    have h9:=H.out.2.2.1 b hb
    rcases e with e|e|e|e
    ·exact h9.2.1 e
    ·exact h9.2.2.1 e
    ·exact h9.2.2.2 e
    ·cases e)
   have HR:=Lib.hid (show PlI wr lo qt bt L f fq m n1 nf1 C2 P1∧P1.Perm (allQ g.zoom QF (xs.take j))∧Chg (CBX bt m fq none) W wr∧(∀ j,gP C2 j→W.heap.size≤j)∧St wr∧xs.take (j+1)=xs.take j ++ [z]∧min z g.zoom=lz∧(∀ z' ∈ xs.take j,z'≠z) from ⟨hP1,hperm,hc1,hC1,hSt1,htk,hlz,hnt⟩)
   clear hrel hP1 hperm hc1 hC1 hcz hfz hXn hvv htk hzx hnt hz pvz hSt1
   subst hCz
   by_cases hl0:lz=0
   ·have HE:=Lib.hid (show ∀ W9,Below wr.heap.size wr W9→∃ n1 nf1 C1 P1,PlI W9 lo qt bt L f fq m n1 nf1 C1 P1∧P1.Perm (allQ g.zoom QF (xs.take (j+1)))∧(n1≤n+8+(j+1)*K∧nf1≤(j+1)*K)∧Chg (CBX bt m fq none) W W9∧(∀ j,gP C1 j→W.heap.size≤j) from fun W9 hb9=>⟨n1,nf1,C2,P1,HR.out.1.keep hb9,by rw [HR.out.2.2.2.2.2.1,allQ_snoc,if_pos (by rw [HR.out.2.2.2.2.2.2.1];exact hl0),List.append_nil];exact HR.out.2.1,⟨by omega,by omega⟩,HR.out.2.2.1.trans (Chg.of (X:=fun _=>False) hb9) (fun _ e=>e.elim),HR.out.2.2.2.1⟩)
    clear hlz
    subst hl0
    go_wp2_with (first
     | (go_at_call 27;refine (PVz.out _).mono ?_;rintro e w' ⟨rfl,hb⟩;obtain ⟨X1,rfl,hl1,hm1⟩:=later _ hb (Nat.le_refl _);clear hb;(try simp only [q9A,q9B,q9D] at hm1 hl1)))
    have hb9:Below wr.heap.size wr X1.w:=q9l
    have hs9:=hb9.size
    have HE1:=Lib.hid (HE.out _ hb9)
    clear hb9
    go_roundw
    case rel=>exact ⟨j+1,by go_num,by omega,by omega,HE1.out⟩
    case measure=>simp [intOf];omega
   ·have hlz0:(lz == 0)=false:=by simpa using hl0
    have pcb:=PC.out n1 nf1 C2 P1 z
    rw [HR.out.2.2.2.2.2.2.1] at pcb
    have PB:=Lib.hid (fun (Y:World) (hY:Below wr.heap.size wr Y)=>pcb Y (HR.out.1.keep hY) (hst.st (X:=fun _=>False) HR.out.2.2.2.2.1 (Chg.of hY) (fun _ _ e=>e)) (fun j hj=>by have:=HR.out.2.2.2.1 j hj;omega) (by have:=hY.size;omega) (by omega) (by omega) hl0 (fun p hp q hq=>by
     obtain ⟨z',hz',hp'⟩:=allQ_mem (HR.out.2.1.mem_iff.1 hp)
     exact H.out.2.2.2.1 z' z (HR.out.2.2.2.2.2.2.2 z' hz') p hp' q hq) hK9 hK8 (by
     have h9:=HR.out.2.1.length_eq
     have h8:=allQ_len (gz:=g.zoom) H.out.2.2.2.2 (xs.take j)
     rw [List.length_take] at h8
     omega))
    clear pcb
    go_wp2_with (first
     | (go_at_call 27;refine (PVz.out _).mono ?_;rintro e w' ⟨rfl,hb⟩;obtain ⟨X1,rfl,hl1,hm1⟩:=later _ hb (Nat.le_refl _);clear hb;(try simp only [q9A,q9B,q9D] at hm1 hl1)))
    have hb9:Below wr.heap.size wr X1.w:=q9l
    have hs9:=hb9.size
    refine (PB.out _ hb9).mono ?_
    rintro e w5 ⟨rfl,n5,nf5,C5,Q5,hP5,hQ5,hn5,hnf5,hc5,hC5⟩
    have hs5:=hc5.size
    have HE:=Lib.hid (show ∃ n1 nf1 C1 P1,PlI w5 lo qt bt L f fq m n1 nf1 C1 P1∧P1.Perm (allQ g.zoom QF (xs.take (j+1)))∧(n1≤n+8+(j+1)*K∧nf1≤(j+1)*K)∧Chg (CBX bt m fq none) W w5∧(∀ j,gP C1 j→W.heap.size≤j) from ⟨n5,nf5,C5,Q5 ++ P1,hP5,by
     rw [HR.out.2.2.2.2.2.1,allQ_snoc,if_neg (by rw [HR.out.2.2.2.2.2.2.1];exact hl0)]
     exact (List.Perm.append hQ5 HR.out.2.1).trans List.perm_append_comm,⟨by omega,by omega⟩,(HR.out.2.2.1.trans (Chg.of (X:=fun _=>False) hb9) (fun _ e=>e.elim)).trans hc5 (fun j hj=>by
     rcases hj with e|e|e|e
     ·exact .inl (.inl e)
     ·exact .inl (.inr (.inl e))
     ·exact .inl (.inr (.inr (.inl e)))
     ·exact .inr (HR.out.2.2.2.1 j e)),fun j hj=>(hC5 j hj).elim (HR.out.2.2.2.1 j) (fun e=>by omega)⟩)
    clear hP5 hQ5 hn5 hnf5 hc5 hC5 hb9
    go_wp2_with fail
    go_roundw
    case rel=>exact ⟨j+1,by go_num,by omega,by omega,HE.out⟩
    case measure=>simp [intOf];omega
  ·obtain rfl:j=kx:=by omega
   have hdj:decide ((j:Int) < (j:Int))=false:=decide_eq_false (by omega)
   have HE:=Lib.hid (show Post (.returned (.tuple #[])) wr by
    rw [← hPost]
    refine ⟨rfl,n1,nf1,C2,P1,xs,HW.out.2.2.2.2.1,HW.out.2.2.2.2.2.1,hP1,?_,?_,(HW.out.2.1.mono (X':=CBX bt m fq none) (fun j hj => .inl (.inl hj))).trans hc1 (fun j hj => .inl hj),fun j hj=>by have:=hC1 j hj;omega⟩
    ·rw [show xs.take j=xs by rw [← HW.out.2.2.2.2.2.2.1,List.take_length]] at hperm
     exact hperm
    ·have:j*K≤17*K:=Nat.mul_le_mul_right K (by omega)
     omega)
   clear hrel hP1 hperm hc1 hC1
   go_wp2_with fail
   (try rw [Exit.noGoto_ret])
   exact bodyPost_end (v := .tuple #[]) (by first|rfl|kernel_rfl) rfl HE.out
end Go.Proofs.YthlijfligikciaaGreat
