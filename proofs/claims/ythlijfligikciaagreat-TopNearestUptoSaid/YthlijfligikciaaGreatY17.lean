/- A part of one proof: PqD. No condition. -/
import Derived.Test.YthlijfligikciaaGreatY15
import Derived.Test.YthlijfligikciaaGreatY16
namespace Go.Proofs.YthlijfligikciaaGreat
open Go.RowKit Go.Maps
set_option linter.unusedSimpArgs false
set_option linter.unusedVariables false
set_option maxRecDepth 2000
theorem inC_right {l x y:Int} {r:Rc} (h0:0≤l) (h1:l≤16) (h:inC l x y r):crightB l x y=true:=by
 obtain ⟨hf,rfl,rfl⟩:=h
 exact cell_ok ⟨h0,h1⟩ hf
def kk (a b c d:Int):Fin 4→Int:=fun j=>match j with
 | 0=>a
 | 1=>b
 | 2=>c
 | 3=>d
theorem PtG.parted {w:World} {s q cc g i m n:Nat} {N:List NdP} {l x y:Int} {rs:List Rc} {p:Option Addr × Nat} (h:PtG w s q (some ⟨g,0,none⟩) cc N) (hi:i < N.length) (hnd:ndAt N i=(⟨l,x,y,noKids,m,false,rs⟩,p)):
  PtG (((((((w.setCell ⟨g,i*10+9,none⟩ (.slice none 0 0)).setCell ⟨g,i*10+8,none⟩ (.bool true)).setCell ⟨g,i*10+3,none⟩ (.int .i64 n)).setCell ⟨g,i*10+3+1,none⟩ (.int .i64 (n+1))).setCell ⟨g,i*10+3+2,none⟩ (.int .i64 (n+2))).setCell ⟨g,i*10+3+3,none⟩ (.int .i64 (n+3))).setCell ⟨g,i*10+7,none⟩ (.int .i64 0)) s q (some ⟨g,0,none⟩) cc (N.set i (⟨l,x,y,fun j=>((n+j.val:Nat):Int),0,true,[]⟩,(none,0))):=by
 have e0:(fun j:Fin 4=>((n+j.val:Nat):Int))=kk n (n+1) (n+2) (n+3):=by
  funext j
  match j with
  | 0=>show ((n+0:Nat):Int)=n;omega
  | 1=>show ((n+1:Nat):Int)=n+1;omega
  | 2=>show ((n+2:Nat):Int)=n+2;omega
  | 3=>show ((n+3:Nat):Int)=n+3;omega
 rw [e0]
 have h1:=h.row (w3:=w) (A3:=none) (k3:=0) (m:=0) (rs':=[]) hi Chg.refl (World.ownsRow_nil _ _ _ _) rfl (fun j hj=>by cases hj) (n:=(⟨l,x,y,noKids,m,false,[]⟩,(none,0))) (by rw [hnd])
 have g1:∀ A:NdP,ndAt (N.set i A) i=A:=fun A=>by rw [ndAt_set hi,if_pos rfl]
 have l1:∀ A:NdP,i < (N.set i A).length:=fun A=>by rw [List.length_set];exact hi
 have h2:=h1.set (l1 _) (j:=8) (by decide) (v := .bool true) (n:=(⟨l,x,y,noKids,m,true,[]⟩,(none,0))) (by rw [g1];rfl) (by rw [g1]) (by rw [g1])
 rw [List.set_set] at h2
 have h3:=h2.set (l1 _) (j:=3) (by decide) (v := .int .i64 n) (n:=(⟨l,x,y,kk n (-1) (-1) (-1),m,true,[]⟩,(none,0))) (by rw [g1];rfl) (by rw [g1]) (by rw [g1])
 rw [List.set_set] at h3
 have h4:=h3.set (l1 _) (j:=4) (by decide) (v := .int .i64 (n+1)) (n:=(⟨l,x,y,kk n (n+1) (-1) (-1),m,true,[]⟩,(none,0))) (by rw [g1];rfl) (by rw [g1]) (by rw [g1])
 rw [List.set_set] at h4
 have h5:=h4.set (l1 _) (j:=5) (by decide) (v := .int .i64 (n+2)) (n:=(⟨l,x,y,kk n (n+1) (n+2) (-1),m,true,[]⟩,(none,0))) (by rw [g1];rfl) (by rw [g1]) (by rw [g1])
 rw [List.set_set] at h5
 have h6:=h5.set (l1 _) (j:=6) (by decide) (v := .int .i64 (n+3)) (n:=(⟨l,x,y,kk n (n+1) (n+2) (n+3),m,true,[]⟩,(none,0))) (by rw [g1];rfl) (by rw [g1]) (by rw [g1])
 rw [List.set_set] at h6
 have h7:=h6.set (l1 _) (j:=7) (by decide) (v := .int .i64 0) (n:=(⟨l,x,y,kk n (n+1) (n+2) (n+3),0,true,[]⟩,(none,0))) (by rw [g1];rfl) (by rw [g1]) (by rw [g1])
 rw [List.set_set] at h7
 exact h7
set_option maxHeartbeats 16000000 in
theorem part_down (k:Int) (HP:PartOk (k+1)):PartOk k:=fun s q cc i C N l x y rs p w h hN hi hnode hin h4 hl0 hl1 hk=>by
 obtain ⟨g,rfl,hqg,hgl⟩:=h.g (by omega)
 have hq:=h.lt
 have q1:=h.c1
 have d0:=h.cells hi (j:=0) (by decide) (v := .int .i64 l) (by rw [hnode];rfl)
 have d1:=h.cells hi (j:=1) (by decide) (v := .int .i64 x) (by rw [hnode];rfl)
 have d2:=h.cells hi (j:=2) (by decide) (v := .int .i64 y) (by rw [hnode];rfl)
 have d9:=h.cells hi (j:=9) (by decide) (v := .slice p.1 rs.length p.2) (by rw [hnode];rfl)
 simp only [Nat.add_zero] at d0
 rw [h4] at d9
 have hrow:=h.rows i hi
 rw [hnode] at hrow
 simp only at hrow
 have hr0:crightB l x y=true:=by
  match rs,h4 with
  | r :: _,_=>exact inC_right hl0 (by omega) (hin r (by simp))
 have pch:=fun (j:Int) (Y:World)=>child_any l x y j Y
 unfold childB at pch
 rw [hr0] at pch
 have PCh:=Lib.hid pch
 have H:=Lib.hid (show PtG w s q (some ⟨g,0,none⟩) cc N∧ndAt N i=(⟨l,x,y,noKids,rs.length,false,rs⟩,p)∧(∀ r ∈ rs,inC l x y r)∧rs.length=4∧w.ownsRow (q+1) 32 4 (.slice p.1 rs.length p.2) rs.length (rcF rs) from ⟨h,hnode,hin,h4,hrow⟩)
 generalize hPost:PartPost q s (some ⟨g,0,none⟩) N l x y i rs w=Post
 obtain ⟨n,hn⟩:∃ n,N.length=n:=⟨_,rfl⟩
 rw [hn] at q1 hi hN
 have HN:=Lib.hid hn
 clear h hnode hin h4 hrow hr0 pch hn
 go_enter Tryz.func102,Tryz.ntmps102
 go_upto_region 0 with fail
 go_cut [4,5] from 13 to 28 (fun s9 p9 wx=>∃ nb:Nat,p9 = .pointer (some ⟨nb,0,none⟩)∧s9 = .slice p.1 4 p.2∧(w.heap.size≤nb∧nb < wx.heap.size)∧(wx.cell? ⟨nb,0,none⟩=some (.int .i64 l)∧wx.cell? ⟨nb,1,none⟩=some (.int .i64 x)∧wx.cell? ⟨nb,2,none⟩=some (.int .i64 y))∧Below w.heap.size w wx)
 case first=>
  have hbd:Below w.heap.size w w.drew:=Below.drew (Below.refl _ _)
  have HSS:=Lib.hid (show ∀ W',Below w.heap.size w W'→(fun w'=>w'.cell? ⟨q,1,none⟩=some (.slice (some ⟨g,0,none⟩) n cc)∧w'.cell? ⟨g,i*10+9,none⟩=some (.slice p.1 4 p.2)∧w'.cell? ⟨g,i*10,none⟩=some (.int .i64 l)∧w'.cell? ⟨g,i*10+1,none⟩=some (.int .i64 x)∧w'.cell? ⟨g,i*10+2,none⟩=some (.int .i64 y)) W' from fun W' hb=>⟨(hb.cell (p:=⟨q,1,none⟩) hq).trans q1,(hb.cell (p:=⟨g,i*10+9,none⟩) hgl).trans d9,(hb.cell (p:=⟨g,i*10,none⟩) hgl).trans d0,(hb.cell (p:=⟨g,i*10+1,none⟩) hgl).trans d1,(hb.cell (p:=⟨g,i*10+2,none⟩) hgl).trans d2⟩)
  refine wp_region_early (fun w'=>w'.cell? ⟨q,1,none⟩=some (.slice (some ⟨g,0,none⟩) n cc)∧w'.cell? ⟨g,i*10+9,none⟩=some (.slice p.1 4 p.2)∧w'.cell? ⟨g,i*10,none⟩=some (.int .i64 l)∧w'.cell? ⟨g,i*10+1,none⟩=some (.int .i64 x)∧w'.cell? ⟨g,i*10+2,none⟩=some (.int .i64 y)) (fun _=>true) (by kernel_rfl) (HSS.out _ hbd) (fun HS=>?_)
  (refine q9t (i:=0) rfl HS ?_;(try simp only [Act.put,q9x,q9y,q9z]))
  (refine q9t (i:=1) rfl HS ?_;(try simp only [Act.put,q9x,q9y,q9z]))
  (refine q9t (i:=2) rfl HS ?_;(try simp only [Act.put,q9x,q9y,q9z]))
  (refine q9t (i:=3) rfl HS ?_;(try simp only [Act.put,q9x,q9y,q9z]))
  (refine q9t (i:=4) rfl HS ?_;(try simp only [Act.put,q9x,q9y,q9z]))
  (refine q9t (i:=5) rfl HS ?_;(try simp only [Act.put,q9x,q9y,q9z]))
  (refine q9t (i:=6) rfl HS ?_;(try simp only [Act.put,q9x,q9y,q9z]))
  (refine q9t (i:=7) rfl HS ?_;(try simp only [Act.put,q9x,q9y,q9z]))
  (refine q9t (i:=8) rfl HS ?_;(try simp only [Act.put,q9x,q9y,q9z]))
  (refine q9t (i:=9) rfl HS ?_;(try simp only [Act.put,q9x,q9y,q9z]))
  (refine q9t (i:=10) rfl HS ?_;(try simp only [Act.put,q9x,q9y,q9z]))
  (refine q9t (i:=11) rfl HS ?_;(try simp only [Act.put,q9x,q9y,q9z]))
  (refine q9t (i:=12) rfl HS ?_;(try simp only [Act.put,q9x,q9y,q9z]))
  (refine q9t (i:=13) rfl HS ?_;(try simp only [Act.put,q9x,q9y,q9z]))
  (refine q9t (i:=14) rfl HS ?_;(try simp only [Act.put,q9x,q9y,q9z]))
  (refine q9t (i:=15) rfl HS ?_;(try simp only [Act.put,q9x,q9y,q9z]))
  refine wpAnyE_one (i:=16) rfl (by kernel_rfl) ?_
  go_wp2_with fail
  first|refine ⟨fun _=>HSS.out _ (hbd.alloc (Nat.le_refl _) _),?_⟩|skip
  refine wpAnyE_one (i:=17) rfl (by kernel_rfl) ?_
  go_wp2_with fail
  first|refine ⟨fun _=>HSS.out _ (hbd.alloc (Nat.le_refl _) _),?_⟩|skip
  refine wpAnyE_one (i:=18) rfl (by kernel_rfl) ?_
  go_wp2_with fail
  first|refine ⟨fun _=>HSS.out _ (hbd.alloc (Nat.le_refl _) _),?_⟩|skip
  refine ⟨by kernel_rfl,?_⟩
  go_wp2_with fail
  go_meet
  exact ⟨_,rfl,rfl,⟨Nat.le_refl _,by simp⟩,⟨by go_simp,by go_simp,by go_simp⟩,hbd.alloc (Nat.le_refl _) _⟩
 case rest=>
  obtain ⟨nb,rfl,rfl,⟨hn1,hn2⟩,⟨c0,c1,c2⟩,hb⟩:=hcut
  have hsc:=hb.size
  have HB:=Lib.hid hb
  have PC:=Lib.hid (show ∀ (j:Fin 4) (Y:World),Calls Tryz.prog 105 #[.agg #[.int .i64 l, .int .i64 x, .int .i64 y], .int .i64 (j.val:Nat)] Y fun e w'=>e = .returned (.tuple #[.agg #[.int .i64 (l+1), .int .i64 (kx x j), .int .i64 (ky y j)], .bool true])∧Below Y.heap.size Y w' from fun j Y=>by
   have h9:=PCh.out (j.val:Nat) Y
   rw [show (true && decide (l < 16∧(0:Int)≤(j.val:Nat)∧((j.val:Nat):Int)≤3))=true by rw [Bool.true_and];exact decide_eq_true ⟨hl1,by omega,by have:=j.isLt;omega⟩] at h9
   simpa [sel,kx,ky] using h9)
  clear hb q1 d0 d1 d2 d9 PCh
  go_wp2_with fail
  have hP0:PtG (wc.alloc (.cells #[.int .i64 0, .int .i64 0, .int .i64 0, .int .i64 0] 184)) s q (some ⟨g,0,none⟩) cc N:=(H.out.1.keep HB.out).keep ((Below.refl _ _).alloc (Nat.le_refl _) _)
  have HP0:=Lib.hid hP0
  clear hP0
  go_loopw [29] (fun a wr=>∃ (j:Nat) (C1:Option Addr) (cc1:Nat),j≤4∧a = .int .i64 j∧wc.heap.size < wr.heap.size∧(wr.cell? ⟨nb,0,none⟩=some (.int .i64 l)∧wr.cell? ⟨nb,1,none⟩=some (.int .i64 x)∧wr.cell? ⟨nb,2,none⟩=some (.int .i64 y))∧Hid ((∀ m,m < 4→wr.cell? ⟨wc.heap.size,m,none⟩=some (.int .i64 (if m < j then ((n+m:Nat):Int) else 0))∧wr.frozen? ⟨wc.heap.size,m,none⟩=false)∧PtG wr s q C1 cc1 (N ++ (newKids l x y).take j)∧Chg (fun z=>z=q∨gP (some ⟨g,0,none⟩) z) w wr∧(∀ z,gP C1 z→(z=g∨w.heap.size≤z)∧z≠wc.heap.size∧z≠nb))) (fun a _=>4 - (intOf a).toNat)
  case atStart=>exact ⟨0,_,_,by decide,rfl,by simp,⟨by go_simp,by go_simp,by go_simp⟩,⟨fun m hm=>by
   match m,hm with
   | 0,_=>exact ⟨by go_simp,by go_simp⟩
   | 1,_=>exact ⟨by go_simp,by go_simp⟩
   | 2,_=>exact ⟨by go_simp,by go_simp⟩
   | 3,_=>exact ⟨by go_simp,by go_simp⟩,by simpa using HP0.out,Chg.of (HB.out.alloc HB.out.size _),fun z hz=>by
   have e9:z=g:=by unfold gP gOf at hz;injection hz with hz;exact hz.symm
   exact ⟨.inl e9,by omega,by omega⟩⟩⟩
  case round=>
   obtain ⟨j,C1,cc1,hj,rfl,hsz,⟨e0,e1,e2⟩,hrel⟩:=hrel
   by_cases hj4:j < 4
   ·have pc:=PC.out ⟨j,hj4⟩
    have htake:(newKids l x y).take (j+1)=(newKids l x y).take j ++ [(⟨l+1,kx x ⟨j,hj4⟩,ky y ⟨j,hj4⟩,noKids,0,false,[]⟩,(none,0))]:=by
     match j,hj4 with
     | 0,_|1,_|2,_|3,_=>rfl
    obtain ⟨cx,hcx⟩:∃ c,kx x ⟨j,hj4⟩=c:=⟨_,rfl⟩
    obtain ⟨cy,hcy⟩:∃ c,ky y ⟨j,hj4⟩=c:=⟨_,rfl⟩
    rw [hcx,hcy] at pc htake
    have pc:∀ (Y:World),Calls Tryz.prog 105 #[.agg #[.int .i64 l, .int .i64 x, .int .i64 y], .int .i64 (j:Nat)] Y fun e w'=>e = .returned (.tuple #[.agg #[.int .i64 (l+1), .int .i64 cx, .int .i64 cy], .bool true])∧Below Y.heap.size Y w':=pc
    have PCj:=Lib.hid pc
    obtain ⟨hkid,hP,hcw,hC1⟩:=hrel.out
    have HR:=Lib.hid (show PtG wr s q C1 cc1 (N ++ (newKids l x y).take j)∧Chg (fun z=>z=q∨gP (some ⟨g,0,none⟩) z) w wr∧(∀ z,gP C1 z→(z=g∨w.heap.size≤z)∧z≠wc.heap.size∧z≠nb)∧(newKids l x y).take (j+1)=(newKids l x y).take j ++ [(⟨l+1,cx,cy,noKids,0,false,[]⟩,(none,0))]∧(N ++ (newKids l x y).take j).length=n+j from ⟨hP,hcw,hC1,htake,by rw [List.length_append,HN.out,List.length_take];simp [newKids];omega⟩)
    have HK:=Lib.hid hkid
    have hqw:=hP.lt
    have hkj:=hkid j hj4
    rw [if_neg (Nat.lt_irrefl j)] at hkj
    obtain ⟨kj,kf⟩:=hkj
    clear hrel hkid hP hcw hC1 htake hcx hcy pc
    go_wp2_with (first
     | (go_at_call 105;refine (PCj.out _).mono ?_;rintro e w' ⟨rfl,hb⟩;obtain ⟨X1,rfl,hl1,hm1⟩:=later _ hb (Nat.le_refl _);clear hb;(try simp only [q9A,q9B,q9D] at hm1 hl1)))
    go_at_call 54
    have hbX:Below wr.heap.size wr (X1.w.alloc (.cells #[.int .i64 (l+1), .int .i64 cx, .int .i64 cy] 83)):=q9l
    refine (pleaf_any s q cc1 C1 _ (l+1) cx cy _ (HR.out.1.keep hbX) (by rw [HR.out.2.2.2.2];omega)).mono ?_
    rintro e w6 ⟨rfl,C2,cc2,hP2,hc2,hC2⟩
    have hsX:=hbX.size
    have hs6:=hc2.size
    have hnX:∀ z,(z=wc.heap.size∨z=nb)→¬ (z=q∨gP C1 z):=fun z hz e=>by
     rcases e with e|e
     ·omega
     ·have:=HR.out.2.2.1 z e;omega
    have hk6:∀ z m,(z=wc.heap.size∨z=nb)→w6.cell? ⟨z,m,none⟩=wr.cell? ⟨z,m,none⟩∧w6.frozen? ⟨z,m,none⟩=wr.frozen? ⟨z,m,none⟩:=fun z m hz=>⟨(hc2.cell (p:=⟨z,m,none⟩) (by show z < _;omega) (hnX z hz)).trans (hbX.cell (p:=⟨z,m,none⟩) (by show z < _;omega)),(hc2.frozen (p:=⟨z,m,none⟩) (by show z < _;omega) (hnX z hz)).trans (hbX.frozen (p:=⟨z,m,none⟩) (by show z < _;omega))⟩
    have kj6:w6.cell? ⟨wc.heap.size,j,none⟩=some (.int .i64 0):=(hk6 _ _ (.inl rfl)).1.trans kj
    have kf6:w6.frozen? ⟨wc.heap.size,j,none⟩=false:=(hk6 _ _ (.inl rfl)).2.trans kf
    have a0:w6.cell? ⟨nb,0,none⟩=some (.int .i64 l):=(hk6 _ _ (.inr rfl)).1.trans e0
    have a1:w6.cell? ⟨nb,1,none⟩=some (.int .i64 x):=(hk6 _ _ (.inr rfl)).1.trans e1
    have a2:w6.cell? ⟨nb,2,none⟩=some (.int .i64 y):=(hk6 _ _ (.inr rfl)).1.trans e2
    have hC2':∀ z,gP C2 z→(z=g∨w.heap.size≤z)∧z≠wc.heap.size∧z≠nb:=fun z hz=>(hC2 z hz).elim (fun h9=>HR.out.2.2.1 z h9) (fun h9=>by omega)
    have hcS:Chg (fun z=>z=wc.heap.size) w6 (w6.setCell ⟨wc.heap.size,j,none⟩ (.int .i64 ((n+j:Nat):Int))):=(Chg.refl (X:=fun z=>z=wc.heap.size)).set (p:=⟨wc.heap.size,j,none⟩) (.inl rfl) _
    rw [HR.out.2.2.2.2]
    have HE:=Lib.hid (show (∀ m,m < 4→(w6.setCell ⟨wc.heap.size,j,none⟩ (.int .i64 ((n+j:Nat):Int))).cell? ⟨wc.heap.size,m,none⟩=some (.int .i64 (if m < j+1 then ((n+m:Nat):Int) else 0))∧(w6.setCell ⟨wc.heap.size,j,none⟩ (.int .i64 ((n+j:Nat):Int))).frozen? ⟨wc.heap.size,m,none⟩=false)∧PtG (w6.setCell ⟨wc.heap.size,j,none⟩ (.int .i64 ((n+j:Nat):Int))) s q C2 cc2 (N ++ (newKids l x y).take (j+1))∧Chg (fun z=>z=q∨gP (some ⟨g,0,none⟩) z) w (w6.setCell ⟨wc.heap.size,j,none⟩ (.int .i64 ((n+j:Nat):Int)))∧(∀ z,gP C2 z→(z=g∨w.heap.size≤z)∧z≠wc.heap.size∧z≠nb) from ⟨fun m hm=>by
     have h9:=HK.out m hm
     by_cases e:m=j
     ·subst e
      rw [if_pos (Nat.lt_succ_self m)]
      exact ⟨by go_simp,by go_simp⟩
     ·refine ⟨?_,?_⟩
      ·rw [World.cell?_setCell_other _ _ _ _ (fun e'=>e (by injection e' with _ e';exact e'.symm)),(hk6 _ _ (.inl rfl)).1,h9.1]
       by_cases e2:m < j
       ·rw [if_pos e2,if_pos (by omega)]
       ·rw [if_neg e2,if_neg (by omega)]
      ·rw [World.frozen?_setCell,(hk6 _ _ (.inl rfl)).2,h9.2],by
     rw [HR.out.2.2.2.1,← List.append_assoc]
     exact hP2.chg hcS (fun z hz e=>by
      have e':z=wc.heap.size:=e
      rcases hz with hz|hz|⟨m,hm,hz⟩
      ·omega
      ·have:=hC2' z hz;omega
      ·have h8:gP (ndAt (N ++ (newKids l x y).take j) m).2.1 z:=by
        by_cases em:m < (N ++ (newKids l x y).take j).length
        ·rw [ndAt_app em] at hz;exact hz
        ·have e9:m=(N ++ (newKids l x y).take j).length:=by simp at hm;simp at em;simp;omega
         rw [e9,ndAt_new] at hz
         cases hz
       by_cases em:m < N.length
       ·rw [ndAt_app em] at h8
        have:=H.out.1.farR em z h8;omega
       ·have h7:(ndAt (N ++ (newKids l x y).take j) m).2.1=none:=by
         unfold ndAt List.getD
         rw [List.getElem?_append_right (by omega),List.getElem?_take]
         split
         ·match m - N.length with
          | 0|1|2|3=>rfl
          | z+4=>rfl
         ·rfl
        rw [h7] at h8
        cases h8),((HR.out.2.1.trans (Chg.of (X:=fun _=>False) hbX) (fun z hz=>hz.elim)).trans hc2 (fun z hz=>by
     rcases hz with hz|hz
     ·exact .inl (.inl hz)
     ·rcases (HR.out.2.2.1 z hz).1 with h9|h9
      ·exact .inl (.inr (by rw [h9];rfl))
      ·exact .inr h9)).trans hcS (fun z hz => .inr (by have e':z=wc.heap.size:=hz;omega)),hC2'⟩)
    clear hP2 hc2 hC2 hbX hnX hk6 hC2' hcS
    go_wp2_with fail
    go_roundw
    case rel=>exact ⟨j+1,C2,cc2,by omega,by go_num,by rw [World.size_setCell];omega,⟨by go_simp,by go_simp,by go_simp⟩,HE.out⟩
    case measure=>simp [intOf];omega
   ·obtain rfl:j=4:=by omega
    obtain ⟨hkid,hP,hcw,hC1⟩:=hrel.out
    have k0:=hkid 0 (by decide)
    have k1:=hkid 1 (by decide)
    have k2:=hkid 2 (by decide)
    have k3:=hkid 3 (by decide)
    rw [if_pos (by decide)] at k0 k1 k2 k3
    have k0:=k0.1
    have k1:=k1.1
    have k2:=k2.1
    have k3:=k3.1
    have hPN:PtG wr s q C1 cc1 (N ++ newKids l x y):=by
     have h9:=hP
     rw [show (newKids l x y).take 4=newKids l x y from rfl] at h9
     exact h9
    have hlenN:(N ++ newKids l x y).length=n+4:=by rw [List.length_append,HN.out];rfl
    obtain ⟨g1,rfl,hqg1,hgl1⟩:=hPN.g (by omega)
    have hi9:i < (N ++ newKids l x y).length:=by omega
    have hnd9:ndAt (N ++ newKids l x y) i=(⟨l,x,y,noKids,rs.length,false,rs⟩,p):=by rw [ndAt_app (by rw [HN.out];exact hi)];exact H.out.2.1
    have q1:=hPN.c1
    rw [hlenN] at q1
    have a3:=hPN.cells hi9 (j:=3) (by decide) (v := .int .i64 (-1)) (by rw [hnd9];rfl)
    have a4:=hPN.cells hi9 (j:=4) (by decide) (v := .int .i64 (-1)) (by rw [hnd9];rfl)
    have a5:=hPN.cells hi9 (j:=5) (by decide) (v := .int .i64 (-1)) (by rw [hnd9];rfl)
    have a6:=hPN.cells hi9 (j:=6) (by decide) (v := .int .i64 (-1)) (by rw [hnd9];rfl)
    have a7:=hPN.cells hi9 (j:=7) (by decide) (v := .int .i64 (rs.length:Nat)) (by rw [hnd9];rfl)
    have a8:=hPN.cells hi9 (j:=8) (by decide) (v := .bool false) (by rw [hnd9];rfl)
    have a9:=hPN.cells hi9 (j:=9) (by decide) (v := .slice p.1 rs.length p.2) (by rw [hnd9];rfl)
    have b3:=hPN.froz (i*10+3)
    have b4:=hPN.froz (i*10+4)
    have b5:=hPN.froz (i*10+5)
    have b6:=hPN.froz (i*10+6)
    have b7:=hPN.froz (i*10+7)
    have b8:=hPN.froz (i*10+8)
    have b9:=hPN.froz (i*10+9)
    have hgk:g1≠wc.heap.size:=(hC1 g1 rfl).2.1
    have hgg:g1=g∨w.heap.size≤g1:=(hC1 g1 rfl).1
    have HR:=Lib.hid (show PtG wr s q (some ⟨g1,0,none⟩) cc1 (N ++ newKids l x y)∧Chg (fun z=>z=q∨gP (some ⟨g,0,none⟩) z) w wr∧ndAt (N ++ newKids l x y) i=(⟨l,x,y,noKids,rs.length,false,rs⟩,p)∧(N ++ newKids l x y).length=n+4 from ⟨hPN,hcw,hnd9,hlenN⟩)
    have hcwS:=hcw.size
    clear hrel hkid hP hcw hC1 hPN hlenN hnd9 e0 e1 e2
    go_wp2_with fail
    have HS:(fun w'=>w'.cell? ⟨wc.heap.size,0,none⟩=some (.int .i64 ((n+0:Nat):Int))∧w'.cell? ⟨wc.heap.size,1,none⟩=some (.int .i64 ((n+1:Nat):Int))∧w'.cell? ⟨wc.heap.size,2,none⟩=some (.int .i64 ((n+2:Nat):Int))∧w'.cell? ⟨wc.heap.size,3,none⟩=some (.int .i64 ((n+3:Nat):Int))) wr.drew:=⟨by go_simp,by go_simp,by go_simp,by go_simp⟩
    refine wp_region_early (fun w'=>w'.cell? ⟨wc.heap.size,0,none⟩=some (.int .i64 ((n+0:Nat):Int))∧w'.cell? ⟨wc.heap.size,1,none⟩=some (.int .i64 ((n+1:Nat):Int))∧w'.cell? ⟨wc.heap.size,2,none⟩=some (.int .i64 ((n+2:Nat):Int))∧w'.cell? ⟨wc.heap.size,3,none⟩=some (.int .i64 ((n+3:Nat):Int))) (fun _=>true) (by kernel_rfl) HS (fun HS=>?_)
    (refine q9t (i:=0) rfl HS ?_;(try simp only [Act.put,q9x,q9y,q9z]))
    (refine q9t (i:=1) rfl HS ?_;(try simp only [Act.put,q9x,q9y,q9z]))
    (refine q9t (i:=2) rfl HS ?_;(try simp only [Act.put,q9x,q9y,q9z]))
    (refine q9t (i:=3) rfl HS ?_;(try simp only [Act.put,q9x,q9y,q9z]))
    (refine q9t (i:=4) rfl HS ?_;(try simp only [Act.put,q9x,q9y,q9z]))
    refine wpAnyE_one (i:=5) rfl (by kernel_rfl) ?_
    go_wp2_with fail
    first|refine ⟨fun _=>⟨by go_simp,by go_simp,by go_simp,by go_simp⟩,?_⟩|skip
    refine wpAnyE_one (i:=6) rfl (by kernel_rfl) ?_
    go_wp2_with fail
    first|refine ⟨fun _=>⟨by go_simp,by go_simp,by go_simp,by go_simp⟩,?_⟩|skip
    refine wpAnyE_one (i:=7) rfl (by kernel_rfl) ?_
    go_wp2_with fail
    first|refine ⟨fun _=>⟨by go_simp,by go_simp,by go_simp,by go_simp⟩,?_⟩|skip
    refine wpAnyE_one (i:=8) rfl (by kernel_rfl) ?_
    go_wp2_with fail
    first|refine ⟨fun _=>⟨by go_simp,by go_simp,by go_simp,by go_simp⟩,?_⟩|skip
    refine wpAnyE_one (i:=9) rfl (by kernel_rfl) ?_
    go_wp2_with fail
    first|refine ⟨fun _=>⟨by go_simp,by go_simp,by go_simp,by go_simp⟩,?_⟩|skip
    refine wpAnyE_one (i:=10) rfl (by kernel_rfl) ?_
    go_wp2_with fail
    first|refine ⟨fun _=>⟨by go_simp,by go_simp,by go_simp,by go_simp⟩,?_⟩|skip
    refine wpAnyE_one (i:=11) rfl (by kernel_rfl) ?_
    go_wp2_with fail
    first|refine ⟨fun _=>⟨by go_simp,by go_simp,by go_simp,by go_simp⟩,?_⟩|skip
    refine wpAnyE_one (i:=12) rfl (by kernel_rfl) ?_
    go_wp2_with fail
    first|refine ⟨fun _=>⟨by go_simp,by go_simp,by go_simp,by go_simp⟩,?_⟩|skip
    refine wpAnyE_one (i:=13) rfl (by kernel_rfl) ?_
    go_wp2_with fail
    first|refine ⟨fun _=>⟨by go_simp,by go_simp,by go_simp,by go_simp⟩,?_⟩|skip
    refine wpAnyE_one (i:=14) rfl (by kernel_rfl) ?_
    go_wp2_with fail
    first|refine ⟨fun _=>⟨by go_simp,by go_simp,by go_simp,by go_simp⟩,?_⟩|skip
    refine wpAnyE_one (i:=15) rfl (by kernel_rfl) ?_
    go_wp2_with fail
    first|refine ⟨fun _=>⟨by go_simp,by go_simp,by go_simp,by go_simp⟩,?_⟩|skip
    refine wpAnyE_one (i:=16) rfl (by kernel_rfl) ?_
    go_wp2_with fail
    first|refine ⟨fun _=>⟨by go_simp,by go_simp,by go_simp,by go_simp⟩,?_⟩|skip
    refine ⟨by kernel_rfl,?_⟩
    have hWP:=(HR.out.1.parted (n:=n) hi9 HR.out.2.2.1)
    have hcW:Chg (fun z=>z=q∨gP (some ⟨g,0,none⟩) z) w (((((((wr.setCell ⟨g1,i*10+9,none⟩ (.slice none 0 0)).setCell ⟨g1,i*10+8,none⟩ (.bool true)).setCell ⟨g1,i*10+3,none⟩ (.int .i64 n)).setCell ⟨g1,i*10+3+1,none⟩ (.int .i64 (n+1))).setCell ⟨g1,i*10+3+2,none⟩ (.int .i64 (n+2))).setCell ⟨g1,i*10+3+3,none⟩ (.int .i64 (n+3))).setCell ⟨g1,i*10+7,none⟩ (.int .i64 0)):=by
     have hx9:(fun z=>z=q∨gP (some ⟨g,0,none⟩) z) g1∨w.heap.size≤g1:=hgg.elim (fun e => .inl (.inr (by rw [e];rfl))) .inr
     exact ((((((HR.out.2.1.set (p:=⟨g1,i*10+9,none⟩) hx9 _).set (p:=⟨g1,i*10+8,none⟩) hx9 _).set (p:=⟨g1,i*10+3,none⟩) hx9 _).set (p:=⟨g1,i*10+3+1,none⟩) hx9 _).set (p:=⟨g1,i*10+3+2,none⟩) hx9 _).set (p:=⟨g1,i*10+3+3,none⟩) hx9 _).set (p:=⟨g1,i*10+7,none⟩) hx9 _
    have hsW1:(((((((wr.setCell ⟨g1,i*10+9,none⟩ (.slice none 0 0)).setCell ⟨g1,i*10+8,none⟩ (.bool true)).setCell ⟨g1,i*10+3,none⟩ (.int .i64 n)).setCell ⟨g1,i*10+3+1,none⟩ (.int .i64 (n+1))).setCell ⟨g1,i*10+3+2,none⟩ (.int .i64 (n+2))).setCell ⟨g1,i*10+3+3,none⟩ (.int .i64 (n+3))).setCell ⟨g1,i*10+7,none⟩ (.int .i64 0)).heap.size≤wr.heap.size:=by simp only [World.size_setCell];exact Nat.le_refl _
    have hsW2:wr.heap.size≤(((((((wr.setCell ⟨g1,i*10+9,none⟩ (.slice none 0 0)).setCell ⟨g1,i*10+8,none⟩ (.bool true)).setCell ⟨g1,i*10+3,none⟩ (.int .i64 n)).setCell ⟨g1,i*10+3+1,none⟩ (.int .i64 (n+1))).setCell ⟨g1,i*10+3+2,none⟩ (.int .i64 (n+2))).setCell ⟨g1,i*10+3+3,none⟩ (.int .i64 (n+3))).setCell ⟨g1,i*10+7,none⟩ (.int .i64 0)).heap.size:=by simp only [World.size_setCell];exact Nat.le_refl _
    have hpi:∀ z,gP p.1 z→z < w.heap.size∧z≠q∧¬ gP (some ⟨g,0,none⟩) z:=fun z hz=>by
     have hz':gP (ndAt N i).2.1 z:=by rw [H.out.2.1];exact hz
     have hiN:i < N.length:=by rw [HN.out];exact hi
     have h9:=H.out.1.farR hiN z hz'
     exact ⟨h9.2,by omega,H.out.1.disC i hiN z hz'⟩
    have hrowW:(((((((wr.setCell ⟨g1,i*10+9,none⟩ (.slice none 0 0)).setCell ⟨g1,i*10+8,none⟩ (.bool true)).setCell ⟨g1,i*10+3,none⟩ (.int .i64 n)).setCell ⟨g1,i*10+3+1,none⟩ (.int .i64 (n+1))).setCell ⟨g1,i*10+3+2,none⟩ (.int .i64 (n+2))).setCell ⟨g1,i*10+3+3,none⟩ (.int .i64 (n+3))).setCell ⟨g1,i*10+7,none⟩ (.int .i64 0)).ownsRow (q+1) 32 4 (.slice p.1 4 p.2) 4 (rcF rs):=by
     have h9:=own_chg H.out.2.2.2.2 hcW (fun z hz e=>by
      rw [gOf_own] at hz
      have h8:=hpi z hz
      exact e.elim h8.2.1 h8.2.2)
     rw [H.out.2.2.2.1] at h9
     exact h9
    have hPXW:∀ z,gP p.1 z→¬ PX q (some ⟨g1,0,none⟩) ((N ++ newKids l x y).set i (⟨l,x,y,fun j=>((n+j.val:Nat):Int),0,true,[]⟩,(none,0))) z:=fun z hz e=>by
     have hz':gP (ndAt (N ++ newKids l x y) i).2.1 z:=by rw [HR.out.2.2.1];exact hz
     rcases e with e|e|⟨m,hm,e⟩
     ·exact (hpi z hz).2.1 e
     ·exact HR.out.1.disC i hi9 z hz' e
     ·rw [List.length_set] at hm
      rw [ndAt_set hi9] at e
      by_cases em:m=i
      ·rw [if_pos em] at e;cases e
      ·rw [if_neg em] at e
       exact HR.out.1.dis i m hi9 hm (fun e9=>em e9.symm) z hz' e
    have hPXg:∀ z,PX q (some ⟨g1,0,none⟩) ((N ++ newKids l x y).set i (⟨l,x,y,fun j=>((n+j.val:Nat):Int),0,true,[]⟩,(none,0))) z→PX q (some ⟨g,0,none⟩) N z∨w.heap.size≤z:=fun z e=>by
     rcases e with e|e|⟨m,hm,e⟩
     ·exact .inl (.inl e)
     ·have e9:z=g1:=by unfold gP gOf at e;injection e with e;exact e.symm
      rcases hgg with h9|h9
      ·exact .inl (.inr (.inl (by rw [e9,h9];rfl)))
      ·exact .inr (by omega)
     ·rw [List.length_set] at hm
      rw [ndAt_set hi9] at e
      by_cases em:m=i
      ·rw [if_pos em] at e;cases e
      ·rw [if_neg em] at e
       by_cases hmN:m < N.length
       ·rw [ndAt_app hmN] at e
        exact .inl (.inr (.inr ⟨m,hmN,e⟩))
       ·exfalso
        have h7:(ndAt (N ++ newKids l x y) m).2.1=none:=by
         unfold ndAt List.getD
         rw [List.getElem?_append_right (by omega)]
         match m - N.length with
         | 0|1|2|3=>rfl
         | z+4=>rfl
        rw [h7] at e
        cases e
    have hlenW:((N ++ newKids l x y).set i (⟨l,x,y,fun j=>((n+j.val:Nat):Int),0,true,[]⟩,(none,0))).length=n+4:=by rw [List.length_set];exact HR.out.2.2.2
    have hstart:=part_start (l:=l) (x:=x) (y:=y) (show i < N.length by rw [HN.out];exact hi) hl1
    rw [HN.out] at hstart
    have HW:=Lib.hid (show PtG (((((((wr.setCell ⟨g1,i*10+9,none⟩ (.slice none 0 0)).setCell ⟨g1,i*10+8,none⟩ (.bool true)).setCell ⟨g1,i*10+3,none⟩ (.int .i64 n)).setCell ⟨g1,i*10+3+1,none⟩ (.int .i64 (n+1))).setCell ⟨g1,i*10+3+2,none⟩ (.int .i64 (n+2))).setCell ⟨g1,i*10+3+3,none⟩ (.int .i64 (n+3))).setCell ⟨g1,i*10+7,none⟩ (.int .i64 0)) s q (some ⟨g1,0,none⟩) cc1 ((N ++ newKids l x y).set i (⟨l,x,y,fun j=>((n+j.val:Nat):Int),0,true,[]⟩,(none,0)))∧PartR N ((N ++ newKids l x y).set i (⟨l,x,y,fun j=>((n+j.val:Nat):Int),0,true,[]⟩,(none,0))) l x y i (rs.take 0) (.node i (kids0 n))∧((N ++ newKids l x y).set i (⟨l,x,y,fun j=>((n+j.val:Nat):Int),0,true,[]⟩,(none,0))).length≤n+4+(if 0≤3 then 0 else (4*(15 - l)).toNat)∧(((((((wr.setCell ⟨g1,i*10+9,none⟩ (.slice none 0 0)).setCell ⟨g1,i*10+8,none⟩ (.bool true)).setCell ⟨g1,i*10+3,none⟩ (.int .i64 n)).setCell ⟨g1,i*10+3+1,none⟩ (.int .i64 (n+1))).setCell ⟨g1,i*10+3+2,none⟩ (.int .i64 (n+2))).setCell ⟨g1,i*10+3+3,none⟩ (.int .i64 (n+3))).setCell ⟨g1,i*10+7,none⟩ (.int .i64 0)).ownsRow (q+1) 32 4 (.slice p.1 4 p.2) 4 (rcF rs)∧(∀ z,gP p.1 z→¬ PX q (some ⟨g1,0,none⟩) ((N ++ newKids l x y).set i (⟨l,x,y,fun j=>((n+j.val:Nat):Int),0,true,[]⟩,(none,0))) z)∧Chg (PX q (some ⟨g,0,none⟩) N) w (((((((wr.setCell ⟨g1,i*10+9,none⟩ (.slice none 0 0)).setCell ⟨g1,i*10+8,none⟩ (.bool true)).setCell ⟨g1,i*10+3,none⟩ (.int .i64 n)).setCell ⟨g1,i*10+3+1,none⟩ (.int .i64 (n+1))).setCell ⟨g1,i*10+3+2,none⟩ (.int .i64 (n+2))).setCell ⟨g1,i*10+3+3,none⟩ (.int .i64 (n+3))).setCell ⟨g1,i*10+7,none⟩ (.int .i64 0))∧(∀ z,PX q (some ⟨g1,0,none⟩) ((N ++ newKids l x y).set i (⟨l,x,y,fun j=>((n+j.val:Nat):Int),0,true,[]⟩,(none,0))) z→PX q (some ⟨g,0,none⟩) N z∨w.heap.size≤z) from ⟨hWP,hstart,by omega,hrowW,hPXW,hcW.mono (fun z hz => .inl (hz.elim .inl (fun h9 => .inr (.inl h9)))),hPXg⟩)
    have hpw:∀ z,gP p.1 z→z < w.heap.size:=fun z hz=>(hpi z hz).1
    have HPW:=Lib.hid hpw
    clear hWP hcW hpi hrowW hPXW hPXg hlenW hstart HS hpw
    generalize hN9:(N ++ newKids l x y).set i (⟨l,x,y,fun j=>((n+j.val:Nat):Int),0,true,[]⟩,(none,0))=N9 at HW
    clear hN9
    generalize (((((((wr.setCell ⟨g1,i*10+9,none⟩ (.slice none 0 0)).setCell ⟨g1,i*10+8,none⟩ (.bool true)).setCell ⟨g1,i*10+3,none⟩ (.int .i64 n)).setCell ⟨g1,i*10+3+1,none⟩ (.int .i64 (n+1))).setCell ⟨g1,i*10+3+2,none⟩ (.int .i64 (n+2))).setCell ⟨g1,i*10+3+3,none⟩ (.int .i64 (n+3))).setCell ⟨g1,i*10+7,none⟩ (.int .i64 0))=W at HW hsW1 hsW2 ⊢
    clear a3 a4 a5 a6 a7 a8 a9 b3 b4 b5 b6 b7 b8 b9 q1 k0 k1 k2 k3
    go_wp2_with fail
    go_loopw [65] (fun a wz=>∃ j:Nat,a = .int .i64 j∧w.heap.size≤wz.heap.size∧Hid (j≤4∧∃ (C2:Option Addr) (cc2:Nat) (N2:List NdP) (t2:QT),PtG wz s q C2 cc2 N2∧PartR N N2 l x y i (rs.take j) t2∧N2.length≤n+4+(if j≤3 then 0 else (4*(15 - l)).toNat)∧wz.ownsRow (q+1) 32 4 (.slice p.1 4 p.2) 4 (rcF rs)∧(∀ z,gP p.1 z→¬ PX q C2 N2 z)∧Chg (PX q (some ⟨g,0,none⟩) N) w wz∧(∀ z,PX q C2 N2 z→PX q (some ⟨g,0,none⟩) N z∨w.heap.size≤z))) (fun a _=>4 - (intOf a).toNat)
    case atStart=>exact ⟨0,rfl,by simp;omega,⟨by decide,_,_,N9,_,HW.out.1.keep (Below.drew (Below.refl _ _)),HW.out.2.1,HW.out.2.2.1,own_keep HW.out.2.2.2.1 (Below.drew (Below.refl _ _)),HW.out.2.2.2.2.1,HW.out.2.2.2.2.2.1.trans (Chg.of (X:=fun _=>False) (Below.drew (Below.refl _ _))) (fun z hz=>hz.elim),HW.out.2.2.2.2.2.2⟩⟩
    case round=>
     obtain ⟨j,rfl,hsz,hrel⟩:=hrel
     obtain ⟨hj4,C2,cc2,N2,t2,hP,hR,hL,hown,hfar,hcz,hgr⟩:=hrel.out
     by_cases hj:j < 4
     ·have hrl:j < rs.length:=by rw [H.out.2.2.2.1];exact hj
      obtain ⟨r,hr⟩:∃ r,rs[j]=r:=⟨_,rfl⟩
      have hrm:r ∈ rs:=by rw [← hr];exact List.getElem_mem hrl
      obtain ⟨b,cap,hv,hlo,hbl⟩:=hown.form (by decide)
      have hpb:p.1=some ⟨b,0,none⟩:=by injection hv
      have hbp:gP p.1 b:=by rw [hpb];rfl
      have rc0:∀ m v,m < 4→(rcC r)[m]? = some v→wr.cell? ⟨b,j*4+m,none⟩=some v:=fun m v hm hv9=>by
       have h9:=hown.cells (g:=b) (by rw [hpb];rfl) (j*4+m) v (by
        have:=flat_get rcC_len rs j hrl m hm
        unfold rcF
        rw [this,hr]
        exact hv9)
       rw [Addr.add_lit,Nat.zero_add] at h9
       exact h9
      have r0:=rc0 0 _ (by decide) rfl
      have r1:=rc0 1 _ (by decide) rfl
      have r2:=rc0 2 _ (by decide) rfl
      have r3:=rc0 3 _ (by decide) rfl
      simp only [Nat.add_zero] at r0
      have ht2:t2.rs.length=j:=by rw [hR.recs.length_eq,List.length_take];omega
      have hroot:=hR.root
      have htk:rs.take (j+1)=rs.take j ++ [r]:=by rw [List.take_succ_eq_append_getElem hrl,hr]
      have hdj:decide ((j:Int) < 4)=true:=decide_eq_true (by omega)
      have HZ:=Lib.hid (And.intro hP (And.intro hR (And.intro hL (And.intro hown (And.intro hfar (And.intro hcz hgr))))))
      clear hrel hP hR hL hown hfar hcz hgr rc0 hv
      rw [hpb]
      go_wp2_with fail
      go_at_call 59
      have hbz:Below wr.heap.size wr (wr.alloc (.cells #[.int .i64 r.id, .int .i64 r.x, .int .i64 r.y, .int .i64 r.label] 32)):=(Below.refl _ _).alloc (Nat.le_refl _) _
      have hlev:levT t2 l=l+1:=by unfold levT;rw [HZ.out.2.1.isn];rfl
      have hlenz:=HZ.out.2.2.1
      have pp:=pput_any (l+1) (HP.mono (by omega)) s q cc2 C2 N2 l x y t2 r _ (HZ.out.1.keep hbz) (by split at hlenz <;> omega) HZ.out.2.1.holds HZ.out.2.1.nod (H.out.2.2.1 r hrm) ⟨hl0,by omega⟩ (by omega) (by omega)
      rw [hroot] at pp
      refine pp.mono ?_
      rintro e w6 ⟨rfl,C3,cc3,N3,t3,hP3,hR3,hL3,hC3,hG3⟩
      have hsz3:=hC3.size
      have HE:=Lib.hid (show j+1≤4∧∃ (C2:Option Addr) (cc2:Nat) (N2:List NdP) (t2:QT),PtG w6 s q C2 cc2 N2∧PartR N N2 l x y i (rs.take (j+1)) t2∧N2.length≤n+4+(if j+1≤3 then 0 else (4*(15 - l)).toNat)∧w6.ownsRow (q+1) 32 4 (.slice p.1 4 p.2) 4 (rcF rs)∧(∀ z,gP p.1 z→¬ PX q C2 N2 z)∧Chg (PX q (some ⟨g,0,none⟩) N) w w6∧(∀ z,PX q C2 N2 z→PX q (some ⟨g,0,none⟩) N z∨w.heap.size≤z) from ⟨hj,C3,cc3,N3,t3,hP3,by rw [htk];exact part_step HZ.out.2.1 hR3,by
        unfold addB at hL3
        rw [hlev,ht2] at hL3
        split at hlenz <;> split at hL3 <;> split <;> omega,own_chg (own_keep HZ.out.2.2.2.1 hbz) hC3 (fun z hz=>HZ.out.2.2.2.2.1 z (by rw [gOf_own] at hz;exact hz)),fun z hz e=>(hG3 z e).elim (HZ.out.2.2.2.2.1 z hz) (fun h9=>by have:=HPW.out z hz;simp at h9;omega),(HZ.out.2.2.2.2.2.1.trans (Chg.of (X:=fun _=>False) hbz) (fun z hz=>hz.elim)).trans hC3 (fun z hz=>HZ.out.2.2.2.2.2.2 z hz),fun z hz=>(hG3 z hz).elim (HZ.out.2.2.2.2.2.2 z) (fun h9 => .inr (by simp at h9;omega))⟩)
      rw [hpb] at HE
      rw [World.size_alloc] at hsz3
      clear hP3 hR3 hL3 hC3 hG3 pp hbz
      go_wp2_with fail
      go_roundw
      case rel=>exact ⟨j+1,by go_num,by omega,HE.out⟩
      case measure=>simp [intOf];omega
     ·obtain rfl:j=4:=by omega
      have hdj:decide (((4:Nat):Int) < 4)=false:=by decide
      rw [show rs.take 4=rs from by rw [← H.out.2.2.2.1,List.take_length]] at hR
      have HFin:=Lib.hid (show Post (.returned (.tuple #[])) wr by
       rw [← hPost]
       refine ⟨rfl,C2,cc2,N2,t2,hP,hR,?_,hcz,hgr⟩
       rw [HN.out]
       simp at hL
       omega)
      clear hrel hP hR hL hown hfar hcz hgr
      go_wp2_with fail
      exact bodyPost_end (v := .tuple #[]) (by first|rfl|kernel_rfl) rfl HFin.out
end Go.Proofs.YthlijfligikciaaGreat
