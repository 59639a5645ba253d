/- A part of one proof: OfA. No condition. -/
import Derived.Test.YthlijfligikciaaGreatY08
namespace Go.Proofs.YthlijfligikciaaGreat
open Go.RowKit Go.Maps
set_option linter.unusedSimpArgs false
set_option linter.unusedVariables false
set_option maxRecDepth 2000
open Classical in
noncomputable def patsOf (l:List Rl):List Pa:=if h:∃ L,CovAll l L then h.choose else []
theorem patsOf_eq {l:List Rl} {L:List Pa} (h:CovAll l L):L=patsOf l:=by
 have h9:∃ L,CovAll l L:=⟨L,h⟩
 unfold patsOf
 rw [dif_pos h9]
 exact bf_one h.2 h9.choose_spec.2
def ofS (a b c d:Int) (p:Pa) (u:Int × Int):Int × Int:=
 if meetsB p.bx.a p.bx.b p.bx.c p.bx.d a b c d=true then (IntKind.u64.wrap (u.1 - areaI (max p.bx.a a) (max p.bx.b b) (min p.bx.c c) (min p.bx.d d)),min u.2 p.zoom) else u
def ofN (L:List Pa) (a b c d:Int):Nat→Int × Int
 | 0=>(areaI a b c d,16)
 | j+1=>ofS a b c d (L.getD j pa0) (ofN L a b c d j)
def ofV (L:List Pa) (a b c d:Int):Int:=if 0 < (ofN L a b c d L.length).1 then 0 else (ofN L a b c d L.length).2
noncomputable def ofT (L:List Rl) (r t l a b c d:Int):Int:=if (numsB r t l && rightB a b c d)=true then ofV (patsOf (mineR L r t l)) a b c d else 0
set_option maxHeartbeats 16000000 in
theorem tof_any (g:Nat→Prop) (lo q b k:Nat) (L:List Rl) (r t l a0 b0 c0 d0:Int) (w:World) (h:Tb w lo q b k L g) (hgw:∀ x,g x→x < w.heap.size) (hk:k < 1000000) (hcnt:cntB L≤1048576) (hn1:L.length≤1000000):
  Calls Tryz.prog 49 #[.pointer (some ⟨q,0,none⟩), .int .i64 r, .int .i64 t, .int .i64 l, .agg #[.int .i64 a0, .int .i64 b0, .int .i64 c0, .int .i64 d0]] w (TabPost g lo q b (k+1) L (.int .i64 (ofT L r t l a0 b0 c0 d0)) w):=by
 have hc1:w.cell? ⟨q,1,none⟩=some (.map (some b)):=by obtain ⟨_,_,_,_,_,A,c,P,S,B,c0,c1,_⟩:=h;exact c1
 have hql:=h.lt
 have hbl:b < w.heap.size:=by obtain ⟨_,_,_,_,_,A,c,P,S,B,c0,c1,_,hm,_⟩:=h;exact hm.lt
 have hqb:=h.ne
 obtain ⟨d,hd⟩:∃ d,numsB r t l=d:=⟨_,rfl⟩
 obtain ⟨d',hd'⟩:∃ d,rightB a0 b0 c0 d0=d:=⟨_,rfl⟩
 have P1:=Lib.hid (fun (Y:World) (hY:Below w.heap.size w Y)=>made_any q b Y ((hY.cell (p:=⟨q,1,none⟩) hql).trans hc1))
 have p2:=fun (Y:World)=>gright_any r t l Y
 rw [hd] at p2
 have P2:=Lib.hid p2
 have p3:=fun (Y:World)=>right_any a0 b0 c0 d0 Y
 rw [hd'] at p3
 have P3:=Lib.hid p3
 clear p2 p3
 have hno:(d && d')=false→Hid (∀ w',Below w.heap.size w w'→TabPost g lo q b (k+1) L (.int .i64 (ofT L r t l a0 b0 c0 d0)) w (.returned (.int .i64 0)) w'):=fun e=>Lib.hid (fun w' hb=>by
  have hz:ofT L r t l a0 b0 c0 d0=0:=by unfold ofT;rw [hd,hd',e];rfl
  rw [hz]
  exact ⟨rfl,(h.keep hb).mono (Nat.le_succ _),grown_below hb⟩)
 cases d with
 | false=>
  have HF:=hno rfl
  generalize TabPost g lo q b (k+1) L (.int .i64 (ofT L r t l a0 b0 c0 d0)) w=Post at HF ⊢
  clear hd hd' hno h
  go_enter Tryz.func49,Tryz.ntmps49
  go_wp2_with (first
   | (go_at_call 69;refine (P1.out _ q9l).mono ?_;rintro e w' ⟨rfl,hb⟩;obtain ⟨X1,rfl,hl1,hm1⟩:=later _ hb (Nat.le_refl _);clear hb;(try simp only [q9A,q9B,q9D] at hm1 hl1))
   | (go_at_call 70;refine (P2.out _).mono ?_;rintro e w' ⟨rfl,hb⟩;obtain ⟨X2,rfl,hl2,hm2⟩:=later _ hb (Nat.le_refl _);clear hb;(try simp only [q9A,q9B,q9D] at hm2 hl2)))
  exact HF.out _ q9l
 | true=>
 cases d' with
 | false=>
  have HF:=hno rfl
  generalize TabPost g lo q b (k+1) L (.int .i64 (ofT L r t l a0 b0 c0 d0)) w=Post at HF ⊢
  clear hd hd' hno h
  go_enter Tryz.func49,Tryz.ntmps49
  go_wp2_with (first
   | (go_at_call 69;refine (P1.out _ q9l).mono ?_;rintro e w' ⟨rfl,hb⟩;obtain ⟨X1,rfl,hl1,hm1⟩:=later _ hb (Nat.le_refl _);clear hb;(try simp only [q9A,q9B,q9D] at hm1 hl1))
   | (go_at_call 70;refine (P2.out _).mono ?_;rintro e w' ⟨rfl,hb⟩;obtain ⟨X2,rfl,hl2,hm2⟩:=later _ hb (Nat.le_refl _);clear hb;(try simp only [q9A,q9B,q9D] at hm2 hl2))
   | (go_at_call 32;refine (P3.out _).mono ?_;rintro e w' ⟨rfl,hb⟩;obtain ⟨X3,rfl,hl3,hm3⟩:=later _ hb (Nat.le_refl _);clear hb;(try simp only [q9A,q9B,q9D] at hm3 hl3)))
  exact HF.out _ q9l
 | true=>
  have hz:ofT L r t l a0 b0 c0 d0=ofV (patsOf (mineR L r t l)) a0 b0 c0 d0:=by unfold ofT;rw [hd,hd'];rfl
  rw [hz]
  have P4:=Lib.hid (fun (Y:World) (hY:Below w.heap.size w Y)=>patches_any g lo q b k L r t l Y (h.keep hY) (fun x e=>Nat.lt_of_lt_of_le (hgw x e) hY.size) hk hd hcnt hn1)
  have PA:=Lib.hid (fun (Y:World)=>area_any a0 b0 c0 d0 Y)
  clear h hd hd' hno hz hcnt hn1
  obtain ⟨ar,har⟩:∃ z,areaI a0 b0 c0 d0=z:=⟨_,rfl⟩
  rw [har] at PA
  have HAR:=Lib.hid har
  clear har
  have hpats:∀ PL,CovAll (mineR L r t l) PL→PL=patsOf (mineR L r t l):=fun PL h=>patsOf_eq h
  have HPT:=Lib.hid hpats
  generalize patsOf (mineR L r t l)=PL0 at HPT hpats ⊢
  clear hpats
  go_enter Tryz.func49,Tryz.ntmps49
  go_wp2_with (first
   | (go_at_call 69;refine (P1.out _ q9l).mono ?_;rintro e w' ⟨rfl,hb⟩;obtain ⟨X1,rfl,hl1,hm1⟩:=later _ hb (Nat.le_refl _);clear hb;(try simp only [q9A,q9B,q9D] at hm1 hl1))
   | (go_at_call 70;refine (P2.out _).mono ?_;rintro e w' ⟨rfl,hb⟩;obtain ⟨X2,rfl,hl2,hm2⟩:=later _ hb (Nat.le_refl _);clear hb;(try simp only [q9A,q9B,q9D] at hm2 hl2))
   | (go_at_call 32;refine (P3.out _).mono ?_;rintro e w' ⟨rfl,hb⟩;obtain ⟨X3,rfl,hl3,hm3⟩:=later _ hb (Nat.le_refl _);clear hb;(try simp only [q9A,q9B,q9D] at hm3 hl3))
   | (go_at_call 96;refine (PA.out _).mono ?_;rintro e w' ⟨rfl,hb⟩;obtain ⟨X4,rfl,hl4,hm4⟩:=later _ hb (Nat.le_refl _);clear hb;(try simp only [q9A,q9B,q9D] at hm4 hl4)))
  refine (P4.out _ q9l).mono ?_
  rintro e W ⟨⟨C,cc,PL,rfl,hp,hcov,hlen,_⟩,hT,hg⟩
  have hY:Below w.heap.size w X4.w:=q9l
  have hYs:w.heap.size+1≤X4.w.heap.size:=by go_size
  have HE:=Lib.hid (show ∀ w' v,Below W.heap.size W w'→v=ofV PL0 a0 b0 c0 d0→TabPost g lo q b (k+1) L (.int .i64 (ofV PL0 a0 b0 c0 d0)) w (.returned (.int .i64 v)) w' from fun w' v hb e=>⟨by rw [e],hT.keep hb,grown_after hY (grown_then hg hb)⟩)
  have g0:W.cell? ⟨w.heap.size,0,none⟩=some (.int .i64 a0):=(hg.cell_far ⟨w.heap.size,0,none⟩ (by show w.heap.size < _;omega) (fun e=>by injection e with e;have e':w.heap.size=b:=e;omega)).trans (by go_simp)
  have g1:W.cell? ⟨w.heap.size,1,none⟩=some (.int .i64 b0):=(hg.cell_far ⟨w.heap.size,1,none⟩ (by show w.heap.size < _;omega) (fun e=>by injection e with e;have e':w.heap.size=b:=e;omega)).trans (by go_simp)
  have g2:W.cell? ⟨w.heap.size,2,none⟩=some (.int .i64 c0):=(hg.cell_far ⟨w.heap.size,2,none⟩ (by show w.heap.size < _;omega) (fun e=>by injection e with e;have e':w.heap.size=b:=e;omega)).trans (by go_simp)
  have g3:W.cell? ⟨w.heap.size,3,none⟩=some (.int .i64 d0):=(hg.cell_far ⟨w.heap.size,3,none⟩ (by show w.heap.size < _;omega) (fun e=>by injection e with e;have e':w.heap.size=b:=e;omega)).trans (by go_simp)
  have hWs:w.heap.size < W.heap.size:=by have:=hg.size;omega
  obtain rfl:=HPT.out PL hcov
  obtain ⟨m,hm⟩:∃ m,PL.length=m:=⟨_,rfl⟩
  have HP:=Lib.hid (And.intro hp hm)
  have hm1:m≤5000000000:=by omega
  rw [hm]
  clear hp hm hcov hlen hT hg hY HPT
  go_wp2_with fail
  go_loopw [11,12,40] (fun lv ev i wr=>∃ (j:Nat) (u v:Int),(j≤m∧Hid (ofN PL a0 b0 c0 d0 j=(u,v)))∧lv = .int .u64 u∧ev = .int .i64 v∧i = .int .i64 j∧Below W.heap.size W wr) (fun _ _ i _=>m - (intOf i).toNat)
  case atStart=>exact ⟨0,ar,16,⟨Nat.zero_le _,by show (areaI a0 b0 c0 d0,(16:Int))=_;rw [HAR.out]⟩,rfl,rfl,rfl,Below.refl _ _⟩
  case round=>
   obtain ⟨j,u,v,⟨hj,hall⟩,rfl,rfl,rfl,hbel⟩:=hrel
   obtain ⟨X,rfl⟩:∃ X:Later W.heap.size W,wr=X.w:=⟨⟨wr,hbel⟩,rfl⟩
   have hXs:=hbel.size
   by_cases hlt:j < m
   ·have hjL:j < PL.length:=by rw [HP.out.2];exact hlt
    obtain ⟨bb,o,hA,hB,p0,p1,p2,p3,p4⟩:=pats_at (HP.out.1.keep hbel) hjL
    subst hA
    have hst:ofN PL a0 b0 c0 d0 (j+1)=ofS a0 b0 c0 d0 (PL.getD j pa0) (u,v):=by rw [← hall.out];rfl
    obtain ⟨p,hp⟩:∃ p,PL.getD j pa0=p:=⟨_,rfl⟩
    rw [hp] at p0 p1 p2 p3 p4 hst
    have pm:=fun (Y:World)=>meet_any p.bx.a p.bx.b p.bx.c p.bx.d a0 b0 c0 d0 Y
    unfold ofS at hst
    obtain ⟨mB,hmB⟩:∃ z,meetsB p.bx.a p.bx.b p.bx.c p.bx.d a0 b0 c0 d0=z:=⟨_,rfl⟩
    rw [hmB] at pm hst
    obtain ⟨x0,hx0⟩:∃ z,max p.bx.a a0=z:=⟨_,rfl⟩
    obtain ⟨x1,hx1⟩:∃ z,max p.bx.b b0=z:=⟨_,rfl⟩
    obtain ⟨x2,hx2⟩:∃ z,min p.bx.c c0=z:=⟨_,rfl⟩
    obtain ⟨x3,hx3⟩:∃ z,min p.bx.d d0=z:=⟨_,rfl⟩
    rw [hx0,hx1,hx2,hx3] at pm hst
    clear hp hmB hx0 hx1 hx2 hx3 hbel
    cases mB with
    | true=>
     simp only [sel,if_true] at pm hst
     have PM:=Lib.hid pm
     have PB:=Lib.hid (fun (Y:World)=>area_any x0 x1 x2 x3 Y)
     obtain ⟨cu,hcu⟩:∃ z,areaI x0 x1 x2 x3=z:=⟨_,rfl⟩
     rw [hcu] at PB hst
     have HST:=Lib.hid hst
     clear pm hcu hst
     go_wp2_with (first
      | (go_at_call 97;refine (PM.out _).mono ?_;rintro e w' ⟨rfl,hb⟩;obtain ⟨X5,rfl,hl5,hm5⟩:=later _ hb (Nat.le_refl _);clear hb;(try simp only [q9A,q9B,q9D] at hm5 hl5))
      | (go_at_call 96;refine (PB.out _).mono ?_;rintro e w' ⟨rfl,hb⟩;obtain ⟨X6,rfl,hl6,hm6⟩:=later _ hb (Nat.le_refl _);clear hb;(try simp only [q9A,q9B,q9D] at hm6 hl6)))
     go_roundw
     case rel=>exact ⟨j+1,_,_,⟨by omega,HST.out⟩,by go_num,by go_num,by go_num,q9l⟩
     case measure=>simp [intOf];omega
    | false=>
     simp only [sel,Bool.false_eq_true,if_false] at pm hst
     have PM:=Lib.hid pm
     have HST:=Lib.hid hst
     clear pm hst
     go_wp2_with (first
      | (go_at_call 97;refine (PM.out _).mono ?_;rintro e w' ⟨rfl,hb⟩;obtain ⟨X5,rfl,hl5,hm5⟩:=later _ hb (Nat.le_refl _);clear hb;(try simp only [q9A,q9B,q9D] at hm5 hl5)))
     go_roundw
     case rel=>exact ⟨j+1,_,_,⟨by omega,HST.out⟩,rfl,rfl,by go_num,q9l⟩
     case measure=>simp [intOf];omega
   ·obtain rfl:j=m:=by omega
    have hend:ofV PL a0 b0 c0 d0=if 0 < u then 0 else v:=by unfold ofV;rw [HP.out.2,hall.out]
    by_cases hu:0 < u
    ·have hdu:decide (0 < u)=true:=decide_eq_true hu
     rw [if_pos hu] at hend
     have HN:=Lib.hid hend
     clear hend
     go_wp2_with fail
     go_ret
     exact HE.out _ _ q9l HN.out.symm
    ·have hdu:decide (0 < u)=false:=decide_eq_false hu
     rw [if_neg hu] at hend
     have HN:=Lib.hid hend
     clear hend
     go_wp2_with fail
     go_ret
     exact HE.out _ _ q9l HN.out.symm
end Go.Proofs.YthlijfligikciaaGreat
