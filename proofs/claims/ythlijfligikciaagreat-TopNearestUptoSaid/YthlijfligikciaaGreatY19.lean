/- A part of one proof: PqG CellD CellE. No condition. -/
import Derived.Test.YthlijfligikciaaGreatY18
import Derived.Test.YthlijfligikciaaGreatY15
import Derived.BigRegion
import Derived.Test.YthlijfligikciaaGreatY03
namespace Go.Proofs.YthlijfligikciaaGreat
open Go.RowKit Go.Maps
set_option linter.unusedSimpArgs false
set_option linter.unusedVariables false
set_option maxRecDepth 2000
def winR (a b c d:Int) (R:List Rc):List Rc:=R.filter (fun r=>hasB a b c d r.x r.y)
theorem inC_up {l X Y:Int} {j:Fin 4} {r:Rc} (h0:0≤l) (h1:l < 16) (h:inC (l+1) (kx X j) (ky Y j) r):inC l X Y r:=by
 obtain ⟨hf,hx,hy⟩:=h
 have hx9:r.x / sd l=r.x / sd (l+1) / 2:=by rw [sd_half h0 h1,Int.mul_comm,← Int.ediv_ediv_of_nonneg (by have:=sd_pos (l+1);omega)]
 have hy9:r.y / sd l=r.y / sd (l+1) / 2:=by rw [sd_half h0 h1,Int.mul_comm,← Int.ediv_ediv_of_nonneg (by have:=sd_pos (l+1);omega)]
 have hj:=j.isLt
 refine ⟨hf,?_,?_⟩
 ·rw [hx9,hx];unfold kx;omega
 ·rw [hy9,hy];unfold ky;omega
theorem holds_inC {N:List NdP}:∀ (t:QT) (l x y:Int),0≤l→Holds N l x y t→∀ r ∈ t.rs,inC l x y r
 | .leaf i rs,l,x,y,h0,h,r,hr=>h.2.2.1 r hr
 | .node i k,l,x,y,h0,h,r,hr=>by
  obtain ⟨j,hj⟩:=rs_kid.1 hr
  exact inC_up h0 h.2.2.1 (holds_inC (k j) _ _ _ (by omega) (h.2.2.2.2 j) r hj)
theorem inC_box {l x y:Int} {r:Rc} (h0:0≤l) (h1:l≤16) (h:inC l x y r):crightB l x y=true∧hasB (x*sd l) (y*sd l) (x*sd l+sd l - 1) (y*sd l+sd l - 1) r.x r.y=true:=by
 have hc:=inC_right h0 h1 h
 obtain ⟨_,_,x0,y0,x1,y1⟩:=cright_iff.1 hc
 have gx:=grid_lt h0 h1 x0 x1
 have gy:=grid_lt h0 h1 y0 y1
 have hs:=sd_pos l
 refine ⟨hc,has_iff.2 ⟨right_iff.2 ⟨gx.1,by omega,gy.1,by omega,by omega,by omega,by omega,by omega,by omega,by omega⟩,?_⟩⟩
 have e1:=(div_iff (n:=r.x) hs).2 h.2.1
 have e2:=(div_iff (n:=r.y) hs).2 h.2.2
 exact ⟨e1.1,e1.2,e2.1,e2.2⟩
theorem win_none {a b c d a' b' c' d':Int} {R:List Rc} (hR:∀ r ∈ R,hasB a' b' c' d' r.x r.y=true) (h:meetsB a' b' c' d' a b c d=false):winR a b c d R=[]:=by
 unfold winR
 rw [List.filter_eq_nil_iff]
 intro r hr e
 have h1:=hR r hr
 obtain ⟨r1,h2⟩:=has_iff.1 h1
 obtain ⟨r2,h3⟩:=has_iff.1 e
 have:meetsB a' b' c' d' a b c d=true:=meets_iff.2 ⟨r1,r2,by omega,by omega,by omega,by omega⟩
 rw [this] at h
 cases h
theorem win_all {a b c d a' b' c' d':Int} {R:List Rc} (hR:∀ r ∈ R,hasB a' b' c' d' r.x r.y=true) (h:inB a' b' c' d' a b c d=true):winR a b c d R=R:=by
 unfold winR
 rw [List.filter_eq_self]
 intro r hr
 obtain ⟨r1,h2⟩:=has_iff.1 (hR r hr)
 obtain ⟨_,r2,h3⟩:=in_iff.1 h
 exact has_iff.2 ⟨r2,by omega,by omega,by omega,by omega⟩
theorem win_kids {a b c d:Int} {i:Nat} {k:Fin 4→QT}:winR a b c d (QT.node i k).rs=winR a b c d (kr k 4):=rfl
theorem win_step {a b c d:Int} {k:Fin 4→QT} {j:Nat} (h:j < 4):winR a b c d (kr k (j+1))=winR a b c d (kr k j) ++ winR a b c d (k ⟨j,h⟩).rs:=by
 rw [kr_step h];unfold winR;rw [List.filter_append]
theorem win_le {a b c d:Int} {R:List Rc}:(winR a b c d R).length≤R.length:=List.length_filter_le _ _
set_option maxHeartbeats 16000000 in
theorem window_any (s q cc o:Nat) (C:Option Addr) (N:List NdP) (a b c d:Int) (hN:N.length≤1000000) (ho:∀ j,PX q C N j→j < o) (t:QT):∀ (l x y:Int) (cap:Nat) (A:Option Addr) (L:List Rc) (w:World),PtG w s q C cc N→Holds N l x y t→0≤l→l≤16→OutR w o A cap L→L.length+t.rs.length≤1000000→
  Calls Tryz.prog 83 #[.pointer (some ⟨q,0,none⟩), .int .i64 t.at_, .agg #[.int .i64 a, .int .i64 b, .int .i64 c, .int .i64 d],(.func (.func 84) #[] #[.pointer (some ⟨o,0,none⟩)])] w fun e w'=>e = .returned (.tuple #[])∧Told w w' o A (L ++ winR a b c d t.rs):=by
 induction t with
 | leaf i rs=>
  intro l x y cap A L w h hh h0 h1 hout hlen
  have hi:i < N.length:=hh.1
  obtain ⟨⟨P1,P2⟩,hnode⟩:=hh.2.1
  have hall:∀ r ∈ rs,crightB l x y=true∧hasB (x*sd l) (y*sd l) (x*sd l+sd l - 1) (y*sd l+sd l - 1) r.x r.y=true:=fun r hr=>inC_box h0 h1 (holds_inC _ _ _ _ h0 hh r hr)
  have he:=peach_any s q cc o C N hN ho (.leaf i rs) l x y cap A L
  rw [show (QT.leaf i rs).at_=i from rfl,show (QT.leaf i rs).rs=rs from rfl] at he ⊢
  rw [show (QT.leaf i rs).rs=rs from rfl] at hlen
  have HEach:=Lib.hid (fun (Y:World) (hY:Below w.heap.size w Y)=>he Y (h.keep hY) hh (hout.keep hY) hlen)
  have pb:=fun (Y:World)=>box_any l x y Y
  have pm:=fun (Y:World)=>meets_any (x*sd l) (y*sd l) (x*sd l+sd l - 1) (y*sd l+sd l - 1) a b c d Y
  have pi:=fun (Y:World)=>in_any (x*sd l) (y*sd l) (x*sd l+sd l - 1) (y*sd l+sd l - 1) a b c d Y
  obtain ⟨g,rfl,hqg,hgl⟩:=h.g (by omega)
  have hq:=h.lt
  have q1:=h.c1
  have hgo:g < o:=ho g (.inr (.inl rfl))
  have hqo:q < o:=ho q (.inl rfl)
  have hol:=hout.lt
  have d:=fun (j:Nat) (hj:j < 10) (v:Value) (hv:(ndC (ndAt N i))[j]? = some v)=>h.cells hi hj hv
  rw [hnode] at d
  have d0:=d 0 (by decide) _ rfl
  have d1:=d 1 (by decide) _ rfl
  have d2:=d 2 (by decide) _ rfl
  have d3:=d 3 (by decide) _ rfl
  have d4:=d 4 (by decide) _ rfl
  have d5:=d 5 (by decide) _ rfl
  have d6:=d 6 (by decide) _ rfl
  have d7:=d 7 (by decide) _ rfl
  have d8:=d 8 (by decide) _ rfl
  have d9:=d 9 (by decide) _ rfl
  simp only [Nat.add_zero,noKids] at d0 d1 d2 d3 d4 d5 d6 d7 d8 d9
  obtain ⟨n,hn⟩:∃ n,N.length=n:=⟨_,rfl⟩
  have hrow:=h.rows i hi
  rw [hnode] at hrow
  simp only at hrow
  have hpo:∀ z,gP P1 z→z < o:=fun z hz=>ho z (.inr (.inr ⟨i,hi,by rw [hnode];exact hz⟩))
  rw [hn] at q1 hi hN
  obtain ⟨m,hm⟩:∃ m,rs.length=m:=⟨_,rfl⟩
  have hlen':L.length+m≤1000000:=by rw [← hm];exact hlen
  have H:=Lib.hid (show OutR w o A cap L∧rs.length=m∧w.ownsRow (q+1) 32 4 (.slice P1 m P2) m (rcF rs) from ⟨hout,hm,by rw [← hm];exact hrow⟩)
  have HPO:=Lib.hid hpo
  rw [hm] at d7 d9
  have hno:¬ OX o A w.heap.size∧¬ OX o A (w.heap.size+1):=⟨fun e=>by have:=hout.far _ e;omega,fun e=>by have:=hout.far _ e;omega⟩
  clear h hh hout hnode d hrow hn hlen ho hpo he
  cases m with
  | zero=>
   obtain rfl:rs=[]:=List.length_eq_zero_iff.1 hm
   have hw:winR a b c d []=[]:=rfl
   rw [hw,List.append_nil]
   clear pm pi
   obtain ⟨cb,hcb⟩:∃ z,crightB l x y=z:=⟨_,rfl⟩
   rw [hcb] at pb
   obtain ⟨v1,hv1⟩:∃ z,sel cb (x*sd l)=z:=⟨_,rfl⟩
   obtain ⟨v2,hv2⟩:∃ z,sel cb (y*sd l)=z:=⟨_,rfl⟩
   obtain ⟨v3,hv3⟩:∃ z,sel cb (x*sd l+sd l - 1)=z:=⟨_,rfl⟩
   obtain ⟨v4,hv4⟩:∃ z,sel cb (y*sd l+sd l - 1)=z:=⟨_,rfl⟩
   rw [hv1,hv2,hv3,hv4] at pb
   have PB:=Lib.hid pb
   clear pb hall hcb hv1 hv2 hv3 hv4 hm
   go_enter Tryz.func83,Tryz.ntmps83
   go_wp2_with (first
    | (go_at_call 30;refine (PB.out _).mono ?_;rintro e w' ⟨rfl,hb⟩;obtain ⟨X1,rfl,hl1,hm1⟩:=later _ hb (Nat.le_refl _);clear hb;(try simp only [q9A,q9B,q9D] at hm1 hl1)))
   exact bodyPost_ret (results_none rfl _ _ _) rfl ⟨rfl,H.out.1.told q9l⟩
  | succ m=>
   obtain ⟨pb0,cap2,hv0,hlo0,hbl0⟩:=H.out.2.2.form (by omega)
   have hpb0:P1=some ⟨pb0,0,none⟩:=by injection hv0
   subst hpb0
   clear hv0
   obtain ⟨r9,hr9⟩:∃ r,r ∈ rs:=⟨rs[0]'(by omega),List.getElem_mem _⟩
   have hcb:=(hall r9 hr9).1
   have hall2:=fun r hr=>(hall r hr).2
   rw [hcb] at pb
   simp only [sel,if_true] at pb
   obtain ⟨v1,hv1⟩:∃ z,x*sd l=z:=⟨_,rfl⟩
   rw [hv1] at pb pm pi hall2
   obtain ⟨v2,hv2⟩:∃ z,y*sd l=z:=⟨_,rfl⟩
   rw [hv2] at pb pm pi hall2
   obtain ⟨v3,hv3⟩:∃ z,v1+sd l - 1=z:=⟨_,rfl⟩
   rw [hv3] at pb pm pi hall2
   obtain ⟨v4,hv4⟩:∃ z,v2+sd l - 1=z:=⟨_,rfl⟩
   rw [hv4] at pb pm pi hall2
   obtain ⟨mB,hmB⟩:∃ z,meetsB v1 v2 v3 v4 a b c d=z:=⟨_,rfl⟩
   obtain ⟨iB,hiB⟩:∃ z,inB v1 v2 v3 v4 a b c d=z:=⟨_,rfl⟩
   rw [hmB] at pm
   rw [hiB] at pi
   have PB:=Lib.hid pb
   have PM:=Lib.hid pm
   have PI:=Lib.hid pi
   clear hall hcb hv1 hv2 hv3 hv4 hr9
   cases mB with
   | false=>
    rw [win_none hall2 hmB,List.append_nil]
    have HH:=Lib.hid H.out.1
    clear hall2 hmB pb pm pi hm H hiB
    go_enter Tryz.func83,Tryz.ntmps83
    go_wp2_with (first
     | (go_at_call 30;refine (PB.out _).mono ?_;rintro e w' ⟨rfl,hb⟩;obtain ⟨X1,rfl,hl1,hm1⟩:=later _ hb (Nat.le_refl _);clear hb;(try simp only [q9A,q9B,q9D] at hm1 hl1))
     | (go_at_call 95;refine (PM.out _).mono ?_;rintro e w' ⟨rfl,hb⟩;obtain ⟨X2,rfl,hl2,hm2⟩:=later _ hb (Nat.le_refl _);clear hb;(try simp only [q9A,q9B,q9D] at hm2 hl2)))
    exact bodyPost_ret (results_none rfl _ _ _) rfl ⟨rfl,HH.out.told q9l⟩
   | true=>
    cases iB with
    | true=>
     rw [win_all hall2 hiB]
     clear hall2 hmB pb pm pi hm H hiB
     go_enter Tryz.func83,Tryz.ntmps83
     go_wp2_with (first
      | (go_at_call 30;refine (PB.out _).mono ?_;rintro e w' ⟨rfl,hb⟩;obtain ⟨X1,rfl,hl1,hm1⟩:=later _ hb (Nat.le_refl _);clear hb;(try simp only [q9A,q9B,q9D] at hm1 hl1))
      | (go_at_call 95;refine (PM.out _).mono ?_;rintro e w' ⟨rfl,hb⟩;obtain ⟨X2,rfl,hl2,hm2⟩:=later _ hb (Nat.le_refl _);clear hb;(try simp only [q9A,q9B,q9D] at hm2 hl2))
      | (go_at_call 9;refine (PI.out _).mono ?_;rintro e w' ⟨rfl,hb⟩;obtain ⟨X3,rfl,hl3,hm3⟩:=later _ hb (Nat.le_refl _);clear hb;(try simp only [q9A,q9B,q9D] at hm3 hl3)))
     go_at_call 116
     have hb3:Below w.heap.size w X3.w:=q9l
     refine (HEach.out _ hb3).mono ?_
     rintro e w6 ⟨rfl,hT⟩
     have HT:=Lib.hid (Told.step_below hb3 hT)
     clear hT hb3
     go_wp2_with fail
     exact bodyPost_ret (results_none rfl _ _ _) rfl ⟨rfl,HT.out⟩
    | false=>
     clear hall2 hmB pb pm pi hiB
     go_enter Tryz.func83,Tryz.ntmps83
     go_wp2_with (first
      | (go_at_call 30;refine (PB.out _).mono ?_;rintro e w' ⟨rfl,hb⟩;obtain ⟨X1,rfl,hl1,hm1⟩:=later _ hb (Nat.le_refl _);clear hb;(try simp only [q9A,q9B,q9D] at hm1 hl1))
      | (go_at_call 95;refine (PM.out _).mono ?_;rintro e w' ⟨rfl,hb⟩;obtain ⟨X2,rfl,hl2,hm2⟩:=later _ hb (Nat.le_refl _);clear hb;(try simp only [q9A,q9B,q9D] at hm2 hl2))
      | (go_at_call 9;refine (PI.out _).mono ?_;rintro e w' ⟨rfl,hb⟩;obtain ⟨X3,rfl,hl3,hm3⟩:=later _ hb (Nat.le_refl _);clear hb;(try simp only [q9A,q9B,q9D] at hm3 hl3)))
     have hb3:Below w.heap.size w X3.w:=q9l
     have HB3:=Lib.hid hb3
     have hs3:w.heap.size+2≤X3.w.heap.size:=by go_size
     have y0:X3.w.cell? ⟨w.heap.size,0,none⟩=some (.int .i64 a):=by go_simp
     have y1:X3.w.cell? ⟨w.heap.size,1,none⟩=some (.int .i64 b):=by go_simp
     have y2:X3.w.cell? ⟨w.heap.size,2,none⟩=some (.int .i64 c):=by go_simp
     have y3:X3.w.cell? ⟨w.heap.size,3,none⟩=some (.int .i64 d):=by go_simp
     clear hb3
     have y8:X3.w.cell? ⟨w.heap.size+1,8,none⟩=some (.bool false):=by go_simp
     go_loopw [49] (fun u wr=>∃ j:Nat,u = .int .i64 j∧j≤m+1∧w.heap.size+2≤wr.heap.size∧(wr.cell? ⟨w.heap.size+1,8,none⟩=some (.bool false)∧wr.cell? ⟨w.heap.size,0,none⟩=some (.int .i64 a)∧wr.cell? ⟨w.heap.size,1,none⟩=some (.int .i64 b)∧wr.cell? ⟨w.heap.size,2,none⟩=some (.int .i64 c)∧wr.cell? ⟨w.heap.size,3,none⟩=some (.int .i64 d))∧Hid (∃ A1 c1,OutR wr o A1 c1 (L ++ winR a b c d (rs.take j))∧Chg (OX o A) w wr∧(∀ z,gP A1 z→gP A z∨w.heap.size+2≤z))) (fun u _=>m+1 - (intOf u).toNat)
     case atStart=>exact ⟨0,rfl,by omega,hs3,⟨y8,y0,y1,y2,y3⟩,⟨A,cap,by simpa [winR] using H.out.1.keep HB3.out,Chg.of HB3.out,fun z hz => .inl hz⟩⟩
     case round=>
      obtain ⟨j,rfl,hjm,hsz,⟨z8,z0,z1,z2,z3⟩,hrel⟩:=hrel
      obtain ⟨A1,c1,ho1,hc1,hg1⟩:=hrel.out
      by_cases hj:j < m+1
      ·have hdj:decide ((j:Int) < (m:Int)+1)=true:=decide_eq_true (by omega)
       have hrl:j < rs.length:=by rw [H.out.2.1];exact hj
       obtain ⟨r,hr⟩:∃ r,rs[j]=r:=⟨_,rfl⟩
       have hrm:r ∈ rs:=by rw [← hr];exact List.getElem_mem hrl
       have hown:=own_chg H.out.2.2 hc1 (fun z hz e=>by rw [gOf_own] at hz;have h1:=HPO.out z hz;have h2:=H.out.1.far z e;omega)
       have rc0:∀ m v,m < 4→(rcC r)[m]? = some v→wr.cell? ⟨pb0,j*4+m,none⟩=some v:=fun m v hm hv9=>by
        have h9:=hown.cells (g:=pb0) rfl (j*4+m) v (by
         have:=flat_get rcC_len rs j hrl m hm
         unfold rcF
         rw [this,hr]
         exact hv9)
        rw [Addr.add_lit,Nat.zero_add] at h9
        exact h9
       have r0:=rc0 0 _ (by decide) rfl
       have r1:=rc0 1 _ (by decide) rfl
       have r2:=rc0 2 _ (by decide) rfl
       have r3:=rc0 3 _ (by decide) rfl
       simp only [Nat.add_zero] at r0
       have htk:rs.take (j+1)=rs.take j ++ [r]:=by rw [List.take_succ_eq_append_getElem hrl,hr]
       have ph:=fun (Y:World)=>has_any a b c d r.x r.y Y
       have hwn:¬ OX o A1 w.heap.size∧¬ OX o A1 (w.heap.size+1):=⟨fun e=>by
        rcases e with e|e
        ·omega
        ·rcases hg1 _ e with e'|e'
         ·exact hno.1 (.inr e')
         ·omega,fun e=>by
        rcases e with e|e
        ·omega
        ·rcases hg1 _ e with e'|e'
         ·exact hno.2 (.inr e')
         ·omega⟩
       have hwt:winR a b c d (rs.take (j+1))=winR a b c d (rs.take j) ++ (if hasB a b c d r.x r.y then [r] else []):=by
        rw [htk]
        unfold winR
        rw [List.filter_append,List.filter_cons,List.filter_nil]
       obtain ⟨hB,hhB⟩:∃ z,hasB a b c d r.x r.y=z:=⟨_,rfl⟩
       rw [hhB] at ph hwt
       have PH:=Lib.hid ph
       have hwl:(winR a b c d (rs.take j)).length≤m+1:=by have:=win_le (a:=a) (b:=b) (c:=c) (d:=d) (R:=rs.take j);rw [List.length_take] at this;omega
       have HZ:=Lib.hid (And.intro ho1 (And.intro hc1 (And.intro hg1 hwt)))
       clear hrel ho1 hc1 hg1 rc0 hown ph hhB hwt htk
       cases hB with
       | false=>
        go_wp2_with (first
         | (go_at_call 72;refine (PH.out _).mono ?_;rintro e w' ⟨rfl,hb⟩;obtain ⟨X4,rfl,hl4,hm4⟩:=later _ hb (Nat.le_refl _);clear hb;(try simp only [q9A,q9B,q9D] at hm4 hl4)))
        have hb4:Below wr.heap.size wr X4.w:=q9l
        have hs4:=hb4.size
        have HE:=Lib.hid (show ∃ A1 c1,OutR X4.w o A1 c1 (L ++ winR a b c d (rs.take (j+1)))∧Chg (OX o A) w X4.w∧(∀ z,gP A1 z→gP A z∨w.heap.size+2≤z) from ⟨A1,c1,by rw [HZ.out.2.2.2];simpa using HZ.out.1.keep hb4,HZ.out.2.1.trans (Chg.of (X:=fun _=>False) hb4) (fun _ e=>e.elim),HZ.out.2.2.1⟩)
        have u8:X4.w.cell? ⟨w.heap.size+1,8,none⟩=some (.bool false):=(hb4.cell (p:=⟨w.heap.size+1,8,none⟩) (by show w.heap.size+1 < _;omega)).trans z8
        have u0:X4.w.cell? ⟨w.heap.size,0,none⟩=some (.int .i64 a):=(hb4.cell (p:=⟨w.heap.size,0,none⟩) (by show w.heap.size < _;omega)).trans z0
        have u1:X4.w.cell? ⟨w.heap.size,1,none⟩=some (.int .i64 b):=(hb4.cell (p:=⟨w.heap.size,1,none⟩) (by show w.heap.size < _;omega)).trans z1
        have u2:X4.w.cell? ⟨w.heap.size,2,none⟩=some (.int .i64 c):=(hb4.cell (p:=⟨w.heap.size,2,none⟩) (by show w.heap.size < _;omega)).trans z2
        have u3:X4.w.cell? ⟨w.heap.size,3,none⟩=some (.int .i64 d):=(hb4.cell (p:=⟨w.heap.size,3,none⟩) (by show w.heap.size < _;omega)).trans z3
        go_roundw
        case rel=>exact ⟨j+1,by go_num,by omega,by omega,⟨u8,u0,u1,u2,u3⟩,HE.out⟩
        case measure=>simp [intOf];omega
       | true=>
        go_wp2_with (first
         | (go_at_call 72;refine (PH.out _).mono ?_;rintro e w' ⟨rfl,hb⟩;obtain ⟨X4,rfl,hl4,hm4⟩:=later _ hb (Nat.le_refl _);clear hb;(try simp only [q9A,q9B,q9D] at hm4 hl4)))
        go_at_call 84
        have hb4:Below wr.heap.size wr X4.w:=q9l
        have hs4:=hb4.size
        refine (out_any o c1 A1 (L ++ winR a b c d (rs.take j)) r _ (HZ.out.1.keep hb4) (by rw [List.length_append];omega)).mono ?_
        rintro e w6 ⟨rfl,A2,c2,ho2,hc2,hg2⟩
        have hs2:=hc2.size
        have hcc:Chg (OX o A1) wr w6:=(Chg.of (X:=OX o A1) hb4).trans hc2 (fun _ e => .inl e)
        have u8:w6.cell? ⟨w.heap.size+1,8,none⟩=some (.bool false):=(hcc.cell (p:=⟨w.heap.size+1,8,none⟩) (by show w.heap.size+1 < _;omega) hwn.2).trans z8
        have u0:w6.cell? ⟨w.heap.size,0,none⟩=some (.int .i64 a):=(hcc.cell (p:=⟨w.heap.size,0,none⟩) (by show w.heap.size < _;omega) hwn.1).trans z0
        have u1:w6.cell? ⟨w.heap.size,1,none⟩=some (.int .i64 b):=(hcc.cell (p:=⟨w.heap.size,1,none⟩) (by show w.heap.size < _;omega) hwn.1).trans z1
        have u2:w6.cell? ⟨w.heap.size,2,none⟩=some (.int .i64 c):=(hcc.cell (p:=⟨w.heap.size,2,none⟩) (by show w.heap.size < _;omega) hwn.1).trans z2
        have u3:w6.cell? ⟨w.heap.size,3,none⟩=some (.int .i64 d):=(hcc.cell (p:=⟨w.heap.size,3,none⟩) (by show w.heap.size < _;omega) hwn.1).trans z3
        have HE:=Lib.hid (show ∃ A1 c1,OutR w6 o A1 c1 (L ++ winR a b c d (rs.take (j+1)))∧Chg (OX o A) w w6∧(∀ z,gP A1 z→gP A z∨w.heap.size+2≤z) from ⟨A2,c2,by rw [HZ.out.2.2.2];simpa using ho2,HZ.out.2.1.trans hcc (fun z hz=>by
         rcases hz with hz|hz
         ·exact .inl (.inl hz)
         ·exact (HZ.out.2.2.1 z hz).elim (fun e => .inl (.inr e)) (fun e => .inr (by omega))),fun z hz=>(hg2 z hz).elim (HZ.out.2.2.1 z) (fun e => .inr (by omega))⟩)
        clear ho2 hc2 hg2 hcc r0 r1 r2 r3 z8 z0 z1 z2 z3
        go_wp2_with fail
        go_roundw
        case rel=>exact ⟨j+1,by go_num,by omega,by omega,⟨u8,u0,u1,u2,u3⟩,HE.out⟩
        case measure=>simp [intOf];omega
      ·obtain rfl:j=m+1:=by omega
       have hdj:decide ((((m+1:Nat)):Int) < (m:Int)+1)=false:=decide_eq_false (by omega)
       rw [show rs.take (m+1)=rs from by rw [← H.out.2.1,List.take_length]] at ho1
       have HE:=Lib.hid (show Told w wr o A (L ++ winR a b c d rs) from ⟨A1,c1,ho1,hc1,fun z hz=>(hg1 z hz).elim .inl (fun e => .inr (by omega))⟩)
       clear hrel ho1 hc1 hg1
       go_wp2_with fail
       exact bodyPost_end (v := .tuple #[]) (by first|rfl|kernel_rfl) rfl ⟨rfl,HE.out⟩
 | node i k ih=>
  intro l x y cap A L w h hh h0 h1 hout hlen
  have hi:i < N.length:=hh.1
  have hnode:=hh.2.1
  have hkids:=hh.2.2.2.2
  have hl16:=hh.2.2.1
  have hall:∀ r ∈ (QT.node i k).rs,crightB l x y=true∧hasB (x*sd l) (y*sd l) (x*sd l+sd l - 1) (y*sd l+sd l - 1) r.x r.y=true:=fun r hr=>inC_box h0 h1 (holds_inC _ _ _ _ h0 hh r hr)
  have he:=peach_any s q cc o C N hN ho (.node i k) l x y cap A L
  rw [show (QT.node i k).at_=i from rfl] at he ⊢
  have HEach:=Lib.hid (fun (Y:World) (hY:Below w.heap.size w Y)=>he Y (h.keep hY) hh (hout.keep hY) hlen)
  have pb:=fun (Y:World)=>box_any l x y Y
  have pm:=fun (Y:World)=>meets_any (x*sd l) (y*sd l) (x*sd l+sd l - 1) (y*sd l+sd l - 1) a b c d Y
  have pi:=fun (Y:World)=>in_any (x*sd l) (y*sd l) (x*sd l+sd l - 1) (y*sd l+sd l - 1) a b c d Y
  have HW:=Lib.hid (win_kids (a:=a) (b:=b) (c:=c) (d:=d) (i:=i) (k:=k))
  obtain ⟨g,rfl,hqg,hgl⟩:=h.g (by omega)
  have hq:=h.lt
  have q1:=h.c1
  have hgo:g < o:=ho g (.inr (.inl rfl))
  have hqo:q < o:=ho q (.inl rfl)
  have hol:=hout.lt
  have d:=fun (j:Nat) (hj:j < 10) (v:Value) (hv:(ndC (ndAt N i))[j]? = some v)=>h.cells hi hj hv
  rw [hnode] at d
  have d0:=d 0 (by decide) _ rfl
  have d1:=d 1 (by decide) _ rfl
  have d2:=d 2 (by decide) _ rfl
  have d3:=d 3 (by decide) _ rfl
  have d4:=d 4 (by decide) _ rfl
  have d5:=d 5 (by decide) _ rfl
  have d6:=d 6 (by decide) _ rfl
  have d7:=d 7 (by decide) _ rfl
  have d8:=d 8 (by decide) _ rfl
  have d9:=d 9 (by decide) _ rfl
  simp only [Nat.add_zero,noKids] at d0 d1 d2 d3 d4 d5 d6 d7 d8 d9
  obtain ⟨n,hn⟩:∃ n,N.length=n:=⟨_,rfl⟩
  have H:=Lib.hid (show OutR w o A cap L∧PtG w s q (some ⟨g,0,none⟩) cc N∧(∀ j,Holds N (l+1) (kx x j) (ky y j) (k j)) from ⟨hout,h,hkids⟩)
  have IH:=Lib.hid ih
  have HO:=Lib.hid ho
  rw [hn] at q1 hi hN
  have HN:=Lib.hid hn
  have HLE:=Lib.hid (fun j=>kr_le (i:=i) (k:=k) j)
  obtain ⟨rs,hrs⟩:∃ rs,(QT.node i k).rs=rs:=⟨_,rfl⟩
  rw [hrs] at d7 hall HEach hlen HW HLE ⊢
  obtain ⟨m,hm⟩:∃ m,rs.length=m:=⟨_,rfl⟩
  rw [hm] at d7 hlen HLE
  have hno:¬ OX o A w.heap.size:=fun e=>by have:=hout.far _ e;omega
  have hix:∀ (j:Nat) (hj:j < 4) (W:World),(Instr.index 184 (.agg #[.int .i64 ((k 0).at_:Nat), .int .i64 ((k 1).at_:Nat), .int .i64 ((k 2).at_:Nat), .int .i64 ((k 3).at_:Nat)]) (.int .i64 (j:Nat))).run Tryz.prog W = .ok (.int .i64 ((k ⟨j,hj⟩).at_:Nat)) W:=fun j hj W=>by
   match j,hj with
   | 0,_=>rfl
   | 1,_=>rfl
   | 2,_=>rfl
   | 3,_=>rfl
  have HIX:=Lib.hid hix
  clear h hh hout hnode d hn ho he ih hkids hix hrs
  cases m with
  | zero=>
   obtain rfl:rs=[]:=List.length_eq_zero_iff.1 hm
   have hw:winR a b c d []=[]:=rfl
   rw [hw,List.append_nil]
   clear pm pi
   obtain ⟨cb,hcb⟩:∃ z,crightB l x y=z:=⟨_,rfl⟩
   rw [hcb] at pb
   obtain ⟨v1,hv1⟩:∃ z,sel cb (x*sd l)=z:=⟨_,rfl⟩
   obtain ⟨v2,hv2⟩:∃ z,sel cb (y*sd l)=z:=⟨_,rfl⟩
   obtain ⟨v3,hv3⟩:∃ z,sel cb (x*sd l+sd l - 1)=z:=⟨_,rfl⟩
   obtain ⟨v4,hv4⟩:∃ z,sel cb (y*sd l+sd l - 1)=z:=⟨_,rfl⟩
   rw [hv1,hv2,hv3,hv4] at pb
   have PB:=Lib.hid pb
   clear pb hall hcb hv1 hv2 hv3 hv4 hm
   go_enter Tryz.func83,Tryz.ntmps83
   go_wp2_with (first
    | (go_at_call 30;refine (PB.out _).mono ?_;rintro e w' ⟨rfl,hb⟩;obtain ⟨X1,rfl,hl1,hm1⟩:=later _ hb (Nat.le_refl _);clear hb;(try simp only [q9A,q9B,q9D] at hm1 hl1)))
   exact bodyPost_ret (results_none rfl _ _ _) rfl ⟨rfl,H.out.1.told q9l⟩
  | succ m=>
   obtain ⟨r9,hr9⟩:∃ r,r ∈ rs:=⟨rs[0]'(by omega),List.getElem_mem _⟩
   have hcb:=(hall r9 hr9).1
   have hall2:=fun r hr=>(hall r hr).2
   rw [hcb] at pb
   simp only [sel,if_true] at pb
   obtain ⟨v1,hv1⟩:∃ z,x*sd l=z:=⟨_,rfl⟩
   rw [hv1] at pb pm pi hall2
   obtain ⟨v2,hv2⟩:∃ z,y*sd l=z:=⟨_,rfl⟩
   rw [hv2] at pb pm pi hall2
   obtain ⟨v3,hv3⟩:∃ z,v1+sd l - 1=z:=⟨_,rfl⟩
   rw [hv3] at pb pm pi hall2
   obtain ⟨v4,hv4⟩:∃ z,v2+sd l - 1=z:=⟨_,rfl⟩
   rw [hv4] at pb pm pi hall2
   obtain ⟨mB,hmB⟩:∃ z,meetsB v1 v2 v3 v4 a b c d=z:=⟨_,rfl⟩
   obtain ⟨iB,hiB⟩:∃ z,inB v1 v2 v3 v4 a b c d=z:=⟨_,rfl⟩
   rw [hmB] at pm
   rw [hiB] at pi
   have PB:=Lib.hid pb
   have PM:=Lib.hid pm
   have PI:=Lib.hid pi
   clear hall hcb hv1 hv2 hv3 hv4 hr9
   cases mB with
   | false=>
    rw [win_none hall2 hmB,List.append_nil]
    have HH:=Lib.hid H.out.1
    clear hall2 hmB pb pm pi hm H hiB
    go_enter Tryz.func83,Tryz.ntmps83
    go_wp2_with (first
     | (go_at_call 30;refine (PB.out _).mono ?_;rintro e w' ⟨rfl,hb⟩;obtain ⟨X1,rfl,hl1,hm1⟩:=later _ hb (Nat.le_refl _);clear hb;(try simp only [q9A,q9B,q9D] at hm1 hl1))
     | (go_at_call 95;refine (PM.out _).mono ?_;rintro e w' ⟨rfl,hb⟩;obtain ⟨X2,rfl,hl2,hm2⟩:=later _ hb (Nat.le_refl _);clear hb;(try simp only [q9A,q9B,q9D] at hm2 hl2)))
    exact bodyPost_ret (results_none rfl _ _ _) rfl ⟨rfl,HH.out.told q9l⟩
   | true=>
    cases iB with
    | true=>
     rw [win_all hall2 hiB]
     clear hall2 hmB pb pm pi hm H hiB
     go_enter Tryz.func83,Tryz.ntmps83
     go_wp2_with (first
      | (go_at_call 30;refine (PB.out _).mono ?_;rintro e w' ⟨rfl,hb⟩;obtain ⟨X1,rfl,hl1,hm1⟩:=later _ hb (Nat.le_refl _);clear hb;(try simp only [q9A,q9B,q9D] at hm1 hl1))
      | (go_at_call 95;refine (PM.out _).mono ?_;rintro e w' ⟨rfl,hb⟩;obtain ⟨X2,rfl,hl2,hm2⟩:=later _ hb (Nat.le_refl _);clear hb;(try simp only [q9A,q9B,q9D] at hm2 hl2))
      | (go_at_call 9;refine (PI.out _).mono ?_;rintro e w' ⟨rfl,hb⟩;obtain ⟨X3,rfl,hl3,hm3⟩:=later _ hb (Nat.le_refl _);clear hb;(try simp only [q9A,q9B,q9D] at hm3 hl3)))
     go_at_call 116
     have hb3:Below w.heap.size w X3.w:=q9l
     refine (HEach.out _ hb3).mono ?_
     rintro e w6 ⟨rfl,hT⟩
     have HT:=Lib.hid (Told.step_below hb3 hT)
     clear hT hb3
     go_wp2_with fail
     exact bodyPost_ret (results_none rfl _ _ _) rfl ⟨rfl,HT.out⟩
    | false=>
     clear hall2 hmB pb pm pi hiB
     go_enter Tryz.func83,Tryz.ntmps83
     go_wp2_with (first
      | (go_at_call 30;refine (PB.out _).mono ?_;rintro e w' ⟨rfl,hb⟩;obtain ⟨X1,rfl,hl1,hm1⟩:=later _ hb (Nat.le_refl _);clear hb;(try simp only [q9A,q9B,q9D] at hm1 hl1))
      | (go_at_call 95;refine (PM.out _).mono ?_;rintro e w' ⟨rfl,hb⟩;obtain ⟨X2,rfl,hl2,hm2⟩:=later _ hb (Nat.le_refl _);clear hb;(try simp only [q9A,q9B,q9D] at hm2 hl2))
      | (go_at_call 9;refine (PI.out _).mono ?_;rintro e w' ⟨rfl,hb⟩;obtain ⟨X3,rfl,hl3,hm3⟩:=later _ hb (Nat.le_refl _);clear hb;(try simp only [q9A,q9B,q9D] at hm3 hl3)))
     have hb3:Below w.heap.size w X3.w:=q9l
     have HB3:=Lib.hid hb3
     have hs3:w.heap.size+2≤X3.w.heap.size:=by go_size
     have y0:X3.w.cell? ⟨w.heap.size,0,none⟩=some (.int .i64 a):=by go_simp
     have y1:X3.w.cell? ⟨w.heap.size,1,none⟩=some (.int .i64 b):=by go_simp
     have y2:X3.w.cell? ⟨w.heap.size,2,none⟩=some (.int .i64 c):=by go_simp
     have y3:X3.w.cell? ⟨w.heap.size,3,none⟩=some (.int .i64 d):=by go_simp
     clear hb3
     go_loopw [49] (fun u wr=>u = .int .i64 0∧wr=X3.w) (fun u _=>0)
     case atStart=>exact ⟨rfl,rfl⟩
     case round=>
      obtain ⟨rfl,rfl⟩:=hrel
      go_wp2_with fail
      go_loopw [65] (fun u wr=>∃ j:Nat,u = .int .i64 j∧j≤4∧w.heap.size+1≤wr.heap.size∧(wr.cell? ⟨w.heap.size,0,none⟩=some (.int .i64 a)∧wr.cell? ⟨w.heap.size,1,none⟩=some (.int .i64 b)∧wr.cell? ⟨w.heap.size,2,none⟩=some (.int .i64 c)∧wr.cell? ⟨w.heap.size,3,none⟩=some (.int .i64 d))∧Hid (∃ A1 c1,OutR wr o A1 c1 (L ++ winR a b c d (kr k j))∧Chg (OX o A) w wr∧(∀ z,gP A1 z→gP A z∨w.heap.size+1≤z))) (fun u _=>4 - (intOf u).toNat)
      case atStart=>exact ⟨0,rfl,by omega,by omega,⟨y0,y1,y2,y3⟩,⟨A,cap,by simpa [kr,winR] using H.out.1.keep HB3.out,Chg.of HB3.out,fun z hz => .inl hz⟩⟩
      case round=>
       obtain ⟨j,rfl,hjm,hsz,⟨z0,z1,z2,z3⟩,hrel⟩:=hrel
       obtain ⟨A1,c1,ho1,hc1,hg1⟩:=hrel.out
       by_cases hj:j < 4
       ·have hdj:decide ((j:Int) < 4)=true:=decide_eq_true (by omega)
        have hix:=HIX.out j hj
        have hlj1:=HLE.out (j+1)
        rw [kr_step hj,List.length_append] at hlj1
        have hwl:=win_le (a:=a) (b:=b) (c:=c) (d:=d) (R:=kr k j)
        have hwn:¬ OX o A1 w.heap.size:=fun e=>by
         rcases e with e|e
         ·omega
         ·rcases hg1 _ e with e'|e'
          ·exact hno (.inr e')
          ·omega
        have HZ:=Lib.hid (And.intro ho1 (And.intro hc1 hg1))
        have pp:=IH.out ⟨j,hj⟩ (l+1) (kx x ⟨j,hj⟩) (ky y ⟨j,hj⟩) c1 A1 (L ++ winR a b c d (kr k j)) wr (H.out.2.1.chg hc1 (fun z hz e=>by have h1:=HO.out z hz;have h2:=H.out.1.far z e;omega)) (H.out.2.2 ⟨j,hj⟩) (by omega) (by omega) ho1 (by rw [List.length_append];omega)
        have PP:=Lib.hid pp
        clear hrel ho1 hc1 hg1 pp
        obtain ⟨ka,hka⟩:∃ z:Nat,(k ⟨j,hj⟩).at_=z:=⟨_,rfl⟩
        rw [hka] at hix PP
        go_wp2_with fail
        go_at_call 83
        refine PP.out.mono ?_
        rintro e w6 ⟨rfl,A2,c2,ho2,hc2,hg2⟩
        have hs2:=hc2.size
        have u0:w6.cell? ⟨w.heap.size,0,none⟩=some (.int .i64 a):=(hc2.cell (p:=⟨w.heap.size,0,none⟩) (by show w.heap.size < _;omega) hwn).trans z0
        have u1:w6.cell? ⟨w.heap.size,1,none⟩=some (.int .i64 b):=(hc2.cell (p:=⟨w.heap.size,1,none⟩) (by show w.heap.size < _;omega) hwn).trans z1
        have u2:w6.cell? ⟨w.heap.size,2,none⟩=some (.int .i64 c):=(hc2.cell (p:=⟨w.heap.size,2,none⟩) (by show w.heap.size < _;omega) hwn).trans z2
        have u3:w6.cell? ⟨w.heap.size,3,none⟩=some (.int .i64 d):=(hc2.cell (p:=⟨w.heap.size,3,none⟩) (by show w.heap.size < _;omega) hwn).trans z3
        have HE:=Lib.hid (show ∃ A1 c1,OutR w6 o A1 c1 (L ++ winR a b c d (kr k (j+1)))∧Chg (OX o A) w w6∧(∀ z,gP A1 z→gP A z∨w.heap.size+1≤z) from ⟨A2,c2,by rw [win_step hj,← List.append_assoc];exact ho2,HZ.out.2.1.trans hc2 (fun z hz=>by
         rcases hz with hz|hz
         ·exact .inl (.inl hz)
         ·exact (HZ.out.2.2 z hz).elim (fun e => .inl (.inr e)) (fun e => .inr (by omega))),fun z hz=>(hg2 z hz).elim (HZ.out.2.2 z) (fun e => .inr (by omega))⟩)
        clear ho2 hc2 hg2 hix hka z0 z1 z2 z3
        go_wp2_with fail
        go_roundw
        case rel=>exact ⟨j+1,by go_num,by omega,by omega,⟨u0,u1,u2,u3⟩,HE.out⟩
        case measure=>simp [intOf];omega
       ·obtain rfl:j=4:=by omega
        have hdj:decide (((4:Nat):Int) < 4)=false:=by decide
        rw [← HW.out] at ho1
        have HE:=Lib.hid (show Told w wr o A (L ++ winR a b c d rs) from ⟨A1,c1,ho1,hc1,fun z hz=>(hg1 z hz).elim .inl (fun e => .inr (by omega))⟩)
        clear hrel ho1 hc1 hg1
        go_wp2_with fail
        exact bodyPost_end (v := .tuple #[]) (by first|rfl|kernel_rfl) rfl ⟨rfl,HE.out⟩
end Go.Proofs.YthlijfligikciaaGreat
namespace Go.Proofs.YthlijfligikciaaGreat
open Go.RowKit
set_option linter.unusedSimpArgs false
set_option linter.unusedVariables false
def snapB (a b c d l:Int):Bool:=lvlB l && rightB a b c d
def low (n l:Int):Int:=n / sd l*sd l
def high (n l:Int):Int:=n / sd l*sd l+sd l - 1
theorem of_right {l x y:Int} (h0:0≤l) (h1:l≤16) (x0:0≤x) (x1:x≤65535) (y0:0≤y) (y1:y≤65535):crightB l (x / sd l) (y / sd l)=true:=
 cright_iff.2 ⟨h0,h1,(div_grid h0 h1 x0 x1).1,(div_grid h0 h1 y0 y1).1,(div_grid h0 h1 x0 x1).2,(div_grid h0 h1 y0 y1).2⟩
set_option maxHeartbeats 4000000 in
theorem snap_any (a b c d l:Int) (w:World):
  Calls Tryz.prog 39 #[.agg #[.int .i64 a, .int .i64 b, .int .i64 c, .int .i64 d], .int .i64 l] w fun e w'=>e = .returned (.tuple #[.agg #[.int .i64 (sel (snapB a b c d l) (low a l)), .int .i64 (sel (snapB a b c d l) (low b l)), .int .i64 (sel (snapB a b c d l) (high c l)), .int .i64 (sel (snapB a b c d l) (high d l))], .bool (snapB a b c d l)])∧Below w.heap.size w w':=by
 have p1:=fun X:World=>lvl_any l X
 have p2:=fun X:World=>right_any a b c d X
 unfold snapB
 rcases Bool.eq_false_or_eq_true (lvlB l) with h|h
 ·rw [h] at p1 ⊢
  obtain ⟨l0,l1⟩:=lvl_iff.1 h
  rcases Bool.eq_false_or_eq_true (rightB a b c d) with hr|hr
  ·rw [hr] at p2 ⊢
   obtain ⟨a0,a1,b0,b1,c0,c1,d0,d1,ac,bd⟩:=by
    have:=right_iff.1 hr
    exact (⟨by omega,by omega,by omega,by omega,by omega,by omega,by omega,by omega,by omega,by omega⟩:0≤a∧a≤65535∧0≤b∧b≤65535∧0≤c∧c≤65535∧0≤d∧d≤65535∧a≤c∧b≤d)
   have p3:=fun X:World=>of_any a b l X l0 l1
   have p4:=fun X:World=>of_any c d l X l0 l1
   have p5:=fun X:World=>box_any l (a / sd l) (b / sd l) X
   have p6:=fun X:World=>box_any l (c / sd l) (d / sd l) X
   rw [of_right l0 l1 a0 a1 b0 b1] at p5
   rw [of_right l0 l1 c0 c1 d0 d1] at p6
   simp only [sel_true] at p5 p6
   unfold low high
   generalize a / sd l=ua at*
   generalize b / sd l=ub at*
   generalize c / sd l=uc at*
   generalize d / sd l=ud at*
   generalize ua*sd l=va at*
   generalize ub*sd l=vb at*
   generalize uc*sd l=vc at*
   generalize ud*sd l=vd at*
   generalize sd l=s at*
   have P1:=Lib.hid p1
   have P2:=Lib.hid p2
   have P3:=Lib.hid p3
   have P4:=Lib.hid p4
   have P5:=Lib.hid p5
   have P6:=Lib.hid p6
   clear p1 p2 p3 p4 p5 p6 h hr a0 a1 b0 b1 c0 c1 d0 d1 ac bd
   go_enter Tryz.func39,Tryz.ntmps39
   go_wp2_with (first
    | (go_at_call 73;refine (P1.out _).mono ?_;rintro e w' ⟨rfl,hb⟩;obtain ⟨X1,rfl,hl1,hm1⟩:=later (w.heap.size+2) hb (by first|exact Nat.le_refl _|go_size);clear hb;(try simp only [q9A,q9B,q9D] at hm1))
    | (go_at_call 32;refine (P2.out _).mono ?_;rintro e w' ⟨rfl,hb⟩;obtain ⟨X2,rfl,hl2,hm2⟩:=later (w.heap.size+2) hb (by first|exact Nat.le_refl _|go_size);clear hb;(try simp only [q9A,q9B,q9D] at hm2))
    | (go_at_call 74;with_reducible refine (P3.out _).mono ?_;rintro e w' ⟨rfl,hb⟩;obtain ⟨X3,rfl,hl3,hm3⟩:=later (w.heap.size+2) hb (by first|exact Nat.le_refl _|go_size);clear hb;(try simp only [q9A,q9B,q9D] at hm3))
    | (go_at_call 30;with_reducible refine (P5.out _).mono ?_;rintro e w' ⟨rfl,hb⟩;obtain ⟨X5,rfl,hl5,hm5⟩:=later (w.heap.size+2) hb (by first|exact Nat.le_refl _|go_size);clear hb;(try simp only [q9A,q9B,q9D] at hm5))
    | (go_at_call 74;with_reducible refine (P4.out _).mono ?_;rintro e w' ⟨rfl,hb⟩;obtain ⟨X4,rfl,hl4,hm4⟩:=later (X5.w.heap.size+1) hb (by first|exact Nat.le_refl _|go_size);clear hb;(try simp only [q9A,q9B,q9D] at hm4))
    | (go_at_call 30;with_reducible refine (P6.out _).mono ?_;rintro e w' ⟨rfl,hb⟩;obtain ⟨X6,rfl,hl6,hm6⟩:=later (X5.w.heap.size+1) hb (by first|exact Nat.le_refl _|go_size);clear hb;(try simp only [q9A,q9B,q9D] at hm6)))
   refine bodyPost_ret (by simp only [results,Tryz.results39];go_simp;all_goals (first|rfl|simp [sel])) rfl ⟨rfl,?_⟩
   exact q9o
  ·rw [hr] at p2 ⊢
   have P1:=Lib.hid p1
   have P2:=Lib.hid p2
   clear p1 p2 h hr
   go_enter Tryz.func39,Tryz.ntmps39
   go_wp2_with (first
    | (go_at_call 73;refine (P1.out _).mono ?_;rintro e w' ⟨rfl,hb⟩;obtain ⟨X1,rfl,hl1,hm1⟩:=later (w.heap.size+2) hb (by first|exact Nat.le_refl _|go_size);clear hb;(try simp only [q9A,q9B,q9D] at hm1))
    | (go_at_call 32;refine (P2.out _).mono ?_;rintro e w' ⟨rfl,hb⟩;obtain ⟨X2,rfl,hl2,hm2⟩:=later (w.heap.size+2) hb (by first|exact Nat.le_refl _|go_size);clear hb;(try simp only [q9A,q9B,q9D] at hm2)))
   refine bodyPost_ret (by simp only [results,Tryz.results39];go_simp;all_goals (first|rfl|simp [sel])) rfl ⟨rfl,?_⟩
   exact q9o
 ·rw [h] at p1 ⊢
  have P1:=Lib.hid p1
  clear p1 p2 h
  go_enter Tryz.func39,Tryz.ntmps39
  go_wp2_with (first
   | (go_at_call 73;refine (P1.out _).mono ?_;rintro e w' ⟨rfl,hb⟩;obtain ⟨X1,rfl,hl1,hm1⟩:=later (w.heap.size+2) hb (by first|exact Nat.le_refl _|go_size);clear hb;(try simp only [q9A,q9B,q9D] at hm1)))
  refine bodyPost_ret (by simp only [results,Tryz.results39];go_simp;all_goals (first|rfl|simp [sel])) rfl ⟨rfl,?_⟩
  exact q9o
def hm (a b c d:Int) (l:Nat):Bool:=decide (a / sd l=c / sd l∧b / sd l=d / sd l)
def homeLv (a b c d:Int):Nat→Nat
 | 0=>0
 | k+1=>if hm a b c d (k+1)=true then k+1 else homeLv a b c d k
def homeH (a b c d:Int):Int:=((homeLv a b c d 16:Nat):Int)
theorem hm_iff {a b c d:Int} {l:Nat}:hm a b c d l=true↔a / sd l=c / sd l∧b / sd l=d / sd l:=by simp [hm]
theorem sd_up {l:Nat} (h:l < 16):sd l=sd ((l:Int)+1)*2:=by
 unfold sd
 rw [show (16 - (l:Int)).toNat=(16 - ((l:Int)+1)).toNat+1 by omega,Int.pow_succ]
theorem div_up {n:Int} {l:Nat} (h:l < 16):n / sd l=n / sd ((l:Int)+1) / 2:=by
 rw [sd_up h,← Int.ediv_ediv_of_nonneg (Int.le_of_lt (sd_pos _))]
theorem hm_down {a b c d:Int} {l:Nat} (h:l < 16) (hh:hm a b c d (l+1)=true):hm a b c d l=true:=by
 rw [hm_iff] at hh ⊢
 push_cast at hh
 rw [div_up h,div_up h,div_up h,div_up h,hh.1,hh.2]
 exact ⟨rfl,rfl⟩
theorem hm_not {a b c d:Int} {l:Nat} (h:hm a b c d l=false):∀ j,l+j≤16→hm a b c d (l+j)=false
 | 0,_=>h
 | j+1,hj=>by
  rw [Bool.eq_false_iff]
  intro e
  have:=hm_down (l:=l+j) (by omega) e
  rw [hm_not h j (by omega)] at this;cases this
theorem homeLv_le (a b c d:Int):∀ k,homeLv a b c d k≤k
 | 0=>Nat.le_refl _
 | k+1=>by
  rw [homeLv]
  split
  ·exact Nat.le_refl _
  ·have:=homeLv_le a b c d k;omega
theorem homeLv_hm {a b c d:Int} (h0:hm a b c d 0=true):∀ k,hm a b c d (homeLv a b c d k)=true
 | 0=>h0
 | k+1=>by
  rw [homeLv]
  split
  ·assumption
  ·exact homeLv_hm h0 k
theorem homeLv_top {a b c d:Int} {k:Nat} (h:hm a b c d k=true∨k=0):homeLv a b c d k=k:=by
 cases k with
 | zero=>rfl
 | succ k=>rw [homeLv,if_pos (h.resolve_right (by omega))]
theorem homeLv_skip {a b c d:Int} {k:Nat} (h:hm a b c d (k+1)=false):homeLv a b c d (k+1)=homeLv a b c d k:=by
 rw [homeLv,if_neg (by rw [h];simp)]
theorem homeLv_stop {a b c d:Int} {k:Nat} (h:hm a b c d (k+1)=false):∀ j,k+j≤16→homeLv a b c d (k+j)=homeLv a b c d k
 | 0,_=>rfl
 | j+1,hj=>by
  have:=hm_not h j (by omega)
  rw [show k+1+j=k+j+1 by omega] at this
  rw [show k+(j+1)=k+j+1 by omega,homeLv_skip this,homeLv_stop h j (by omega)]
theorem hm_zero {a b c d:Int} (h:rightB a b c d=true):hm a b c d 0=true:=by
 have:=right_iff.1 h
 rw [hm_iff]
 have e:sd ((0:Nat):Int)=65536:=by decide
 rw [e];omega
end Go.Proofs.YthlijfligikciaaGreat
