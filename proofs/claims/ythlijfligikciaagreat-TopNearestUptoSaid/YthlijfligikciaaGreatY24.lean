/- A part of one proof: WnA OpenNr QuB QuC. No condition. -/
import Derived.Test.YthlijfligikciaaGreatY23
import Derived.Test.YthlijfligikciaaGreatY18
import Derived.Test.YthlijfligikciaaGreatY09
import Derived.Test.YthlijfligikciaaGreatY10
import Derived.Test.YthlijfligikciaaGreatY12
import Derived.Handy
namespace Go.Proofs.YthlijfligikciaaGreat
open Go.RowKit Go.Maps
set_option linter.unusedSimpArgs false
set_option linter.unusedVariables false
set_option maxRecDepth 2000
def rc0:Rc:=⟨0,0,0,0⟩
def sh0:Sh:=⟨0,0,0,0,0,0⟩
def Rcs (w:World) (A:Option Addr) (R:List Rc):Prop:=0 < R.length→∃ b o,A=some ⟨b,o,none⟩∧b < w.heap.size∧∀ i,i < R.length→
 w.cell? ⟨b,o+i*4,none⟩=some (.int .i64 (R.getD i rc0).id)∧w.cell? ⟨b,o+i*4+1,none⟩=some (.int .i64 (R.getD i rc0).x)∧w.cell? ⟨b,o+i*4+2,none⟩=some (.int .i64 (R.getD i rc0).y)∧w.cell? ⟨b,o+i*4+3,none⟩=some (.int .i64 (R.getD i rc0).label)
def Shs (w:World) (A:Option Addr) (S:List Sh):Prop:=0 < S.length→∃ b o,A=some ⟨b,o,none⟩∧b < w.heap.size∧∀ i,i < S.length→
 w.cell? ⟨b,o+i*6,none⟩=some (.int .i64 (S.getD i sh0).id)∧w.cell? ⟨b,o+i*6+1,none⟩=some (.int .i64 (S.getD i sh0).a)∧w.cell? ⟨b,o+i*6+2,none⟩=some (.int .i64 (S.getD i sh0).b)∧w.cell? ⟨b,o+i*6+3,none⟩=some (.int .i64 (S.getD i sh0).c)∧w.cell? ⟨b,o+i*6+4,none⟩=some (.int .i64 (S.getD i sh0).d)∧w.cell? ⟨b,o+i*6+5,none⟩=some (.int .i64 (S.getD i sh0).label)
theorem Rcs.same {w w':World} {A:Option Addr} {R:List Rc} (h:Rcs w A R) (hs:∀ j,j < w.heap.size→w'.heap[j]? = w.heap[j]?) (hz:w.heap.size≤w'.heap.size):Rcs w' A R:=fun hp=>by
 obtain ⟨b,o,e,hb,hc⟩:=h hp
 have k:∀ i,w'.cell? ⟨b,i,none⟩=w.cell? ⟨b,i,none⟩:=fun i=>World.cell?_of_block (a:=⟨b,i,none⟩) (hs b hb)
 exact ⟨b,o,e,Nat.lt_of_lt_of_le hb hz,fun i hi=>by obtain ⟨h0,h1,h2,h3⟩:=hc i hi;exact ⟨(k _).trans h0,(k _).trans h1,(k _).trans h2,(k _).trans h3⟩⟩
theorem Shs.same {w w':World} {A:Option Addr} {S:List Sh} (h:Shs w A S) (hs:∀ j,j < w.heap.size→w'.heap[j]? = w.heap[j]?) (hz:w.heap.size≤w'.heap.size):Shs w' A S:=fun hp=>by
 obtain ⟨b,o,e,hb,hc⟩:=h hp
 have k:∀ i,w'.cell? ⟨b,i,none⟩=w.cell? ⟨b,i,none⟩:=fun i=>World.cell?_of_block (a:=⟨b,i,none⟩) (hs b hb)
 exact ⟨b,o,e,Nat.lt_of_lt_of_le hb hz,fun i hi=>by obtain ⟨h0,h1,h2,h3,h4,h5⟩:=hc i hi;exact ⟨(k _).trans h0,(k _).trans h1,(k _).trans h2,(k _).trans h3,(k _).trans h4,(k _).trans h5⟩⟩
def insN (R:List Rc):Nat→List Rc
 | 0=>[]
 | j+1=>insR (insN R j) (R.getD j rc0)
def putN (S:List Sh):Nat→List Sh
 | 0=>[]
 | j+1=>putS (putN S j) (S.getD j sh0)
theorem insN_len (R:List Rc):∀ j,(insN R j).length≤j
 | 0=>Nat.le_refl _
 | j+1=>by
  have ih:=insN_len R j
  unfold insN insR
  split
  ·rw [List.length_append,List.length_singleton];omega
  ·omega
theorem putN_len (S:List Sh):∀ j,(putN S j).length≤j
 | 0=>Nat.le_refl _
 | j+1=>by
  have ih:=putN_len S j
  have hd:=List.length_filter_le (fun s=>!(s.id == (S.getD j sh0).id)) (putN S j)
  unfold putN putS delS
  split
  ·rw [List.length_cons];omega
  ·omega
def WI (wz lo hi qt bt s q qc bm z:Nat) (L:List Rl) (R:List Rc) (S:List Sh) (w:World):Prop:=
 ∃ C cc N t tt,Tb w lo qt bt 0 L (fun j=>hi≤j)∧PtI w s q C cc N t R∧CtI w qc bm z tt S∧(∀ j,(PX q C N j∨j=s)→wz < j∧(j < lo∨hi≤j))∧(∀ j,(CX bm tt j∨j=qc)→hi≤j)∧∀ j,(PX q C N j∨j=s)→¬ (CX bm tt j∨j=qc)
section
variable {wz lo hi qt bt s q qc bm z:Nat} {L:List Rl} {R R':List Rc} {S S':List Sh} {w w':World}
theorem PtI.pxl {C:Option Addr} {cc:Nat} {N:List NdP} {t:QT} (h:PtI w s q C cc N t R):∀ j,(PX q C N j∨j=s)→j < w.heap.size:=fun j hj=>hj.elim (fun e=>(h.g.far j e).2) (fun e=>by have:=h.g.ls;have:=h.g.lt;omega)
theorem WI.keep (h:WI wz lo hi qt bt s q qc bm z L R S w) (hb:Below w.heap.size w w'):WI wz lo hi qt bt s q qc bm z L R S w':=by
 obtain ⟨C,cc,N,t,tt,hT,hP,hC,h1,h2,h3⟩:=h
 exact ⟨C,cc,N,t,tt,hT.keep hb,hP.keep hb,hC.keep hb,h1,h2,h3⟩
end
def WldPost (L:List Rl) (R:List Rc) (S:List Sh) (w:World) (e:Ending) (w':World):Prop:=
 Below w.heap.size w w'∧((∃ q qc lo qt bt s C cc N t bm z tt,e = .returned (.tuple #[.agg #[.pointer (some ⟨q,0,none⟩), .pointer (some ⟨qc,0,none⟩), .pointer (some ⟨qt,0,none⟩)], .bool true])∧Tb w' lo qt bt 0 L∧PtI w' s q C cc N t (insN R R.length)∧CtI w' qc bm z tt (putN S S.length)∧(∀ j,(PX q C N j∨j=s)→j≠bt)∧(∀ j,(CX bm tt j∨j=qc)→j≠bt)∧w.heap.size≤bt)∨e = .returned (.tuple #[.agg #[.pointer none, .pointer none, .pointer none], .bool false]))
set_option maxHeartbeats 16000000 in
theorem wld_any (n c nr cr ns cs:Nat) (A AR AS:Option Addr) (L:List Rl) (P:Nat→Option Addr × Nat) (R:List Rc) (S:List Sh) (w:World) (h:Rls w w.heap.size A L P) (hn:L.length=n) (hn1:n≤1000000) (hcnt:cntB L≤1048576) (hPn:∀ i,i < n→(P i).1=none→(L.getD i rl0).boxes.length=0) (hR:Rcs w AR R) (hRn:R.length=nr) (hR60:nr≤60) (hRw:∀ r ∈ R,wf64 r.id) (hS:Shs w AS S) (hSn:S.length=ns) (hS60:ns≤60) (hSw:∀ s ∈ S,wf64 s.id):
  Calls Tryz.prog 6 #[.slice A n c, .slice AR nr cr, .slice AS ns cs] w (WldPost L R S w):=by
 have PG:=Lib.hid (fun (Y:World) (hY:Below w.heap.size w Y)=>gnew_any n c A L P Y ((h.keep hY).more hY.size) hn hn1 hcnt hPn)
 have PT:=Lib.hid (fun (Y:World)=>ptNew_all Y)
 have PC:=Lib.hid (fun (Y:World)=>cifNew_all Y)
 have HRS:=Lib.hid (And.intro hR (And.intro hRn (And.intro hRw (And.intro hS (And.intro hSn hSw)))))
 have HF:=Lib.hid (show ∀ w',Below w.heap.size w w'→WldPost L R S w (.returned (.tuple #[.agg #[.pointer none, .pointer none, .pointer none], .bool false])) w' from fun w' hb=>⟨hb, .inr rfl⟩)
 generalize hW:WldPost L R S w=Post at HF
 clear h hn hn1 hcnt hPn hR hRn hRw hS hSn hSw
 go_enter Tryz.func6,Tryz.ntmps6
 go_wp2_with fail
 go_at_call 18
 refine (PT.out _).mono ?_
 rintro e w' ⟨C,cc,rfl,hpt,hb⟩
 obtain ⟨X1,rfl,hl1,hm1⟩:=later _ hb (Nat.le_refl _)
 simp only [World.size_alloc] at hpt
 have hs1:=hpt.g.ls
 have hz1:w.heap.size+1≤X1.w.heap.size:=Nat.le_trans (by simp) hl1
 have HP:=Lib.hid hpt
 clear hpt hb
 go_wp2_with fail
 go_at_call 19
 refine (PG.out _ q9l).mono ?_
 rintro e w' ⟨hb,hor⟩
 rcases hor with ⟨h32,hall,qt,bt,rfl,hT⟩|⟨hnot,f,hf,rfl⟩
 ·have hP2:=HP.out.keep hb
  have hbt:bt < w'.heap.size:=by obtain ⟨_,_,_,_,_,A,c,P,S,B,c0,c1,_,hm,_⟩:=hT;exact hm.lt
  have hlob:=hT.lb
  have HT:=Lib.hid (And.intro hT (And.intro hP2 hb))
  obtain ⟨X2,rfl,hl2,hm2⟩:=later _ hb (Nat.le_refl _)
  clear h32 hall hT hP2 hb
  go_wp2_with fail
  go_at_call 20
  refine (PC.out _).mono ?_
  rintro e w' ⟨qc,bm,tt,rfl,hC,hqc,hCX,hb⟩
  have hWI:WI w.heap.size X1.w.heap.size X2.w.heap.size qt bt (w.heap.size+1) (w.heap.size+1+1) qc bm 0 L [] [] w':=by
   refine ⟨C,cc,_,_,tt,(HT.out.1.step (g':=fun j=>X2.w.heap.size≤j) (fun _ _ _ _=>rfl) (Nat.le_refl _) (fun x hx => .inr hx)).keep hb,HT.out.2.1.keep hb,hC,fun j hj=>?_,fun j hj=>hj.elim (hCX j) (fun e=>by rw [e];exact hqc),fun j hj e=>?_⟩
   ·have h1:=HP.out.pxl j hj
    refine ⟨?_, .inl h1⟩
    rcases hj with e|e
    ·have:=(HP.out.g.far j e).1;omega
    ·omega
   ·have h1:=HP.out.pxl j hj
    have h2:=hl2
    rcases e with e|e
    ·have:=hCX j e;omega
    ·omega
  obtain ⟨X3,rfl,hl3,hm3⟩:=later _ hb (Nat.le_refl _)
  have HI:=Lib.hid hWI
  have hw3:Below w.heap.size w X3.w:=q9l
  have hs3:=hw3.size
  have HW3:=Lib.hid hw3
  have y0:X3.w.cell? ⟨w.heap.size,0,none⟩=some (.pointer none):=by go_simp
  have y1:X3.w.cell? ⟨w.heap.size,1,none⟩=some (.pointer none):=by go_simp
  have y2:X3.w.cell? ⟨w.heap.size,2,none⟩=some (.pointer none):=by go_simp
  have u0:X3.w.frozen? ⟨w.heap.size,0,none⟩=false:=by go_simp
  have u1:X3.w.frozen? ⟨w.heap.size,1,none⟩=false:=by go_simp
  have u2:X3.w.frozen? ⟨w.heap.size,2,none⟩=false:=by go_simp
  have hs3z:w.heap.size < X3.w.heap.size:=by omega
  clear hb hC hCX hWI hw3
  go_wp2_with fail
  go_loopw [13] (fun i wr=>∃ j:Nat,j≤nr∧i = .int .i64 j∧X3.w.heap.size≤wr.heap.size∧Hid (Chg (fun j=>w.heap.size < j) X3.w wr∧WI w.heap.size X1.w.heap.size X2.w.heap.size qt bt (w.heap.size+1) (w.heap.size+1+1) qc bm 0 L (insN R j) [] wr)) (fun i _=>nr - (intOf i).toNat)
  case atStart=>exact ⟨0,Nat.zero_le _,rfl,Nat.le_refl _,Chg.refl,HI.out⟩
  case round=>
   obtain ⟨j,hj,rfl,hsz,hrel⟩:=hrel
   by_cases hlt:j < nr
   ·have hjL:j < R.length:=by rw [HRS.out.2.1];exact hlt
    obtain ⟨bb,o,hA,hB,hc⟩:=HRS.out.1 (by omega)
    have hc0:=hc j hjL
    have hk:∀ i,wr.cell? ⟨bb,i,none⟩=w.cell? ⟨bb,i,none⟩:=fun i=>(hrel.out.1.cell (p:=⟨bb,i,none⟩) (by show bb < _;omega) (by show ¬ w.heap.size < bb;omega)).trans (HW3.out.cell (p:=⟨bb,i,none⟩) hB)
    have hrw:=HRS.out.2.2.1 (R.getD j rc0) (by rw [show R.getD j rc0=R[j] by simp [List.getD,List.getElem?_eq_getElem hjL]];exact List.getElem_mem hjL)
    have hins:insN R (j+1)=insR (insN R j) (R.getD j rc0):=rfl
    obtain ⟨r,hr⟩:∃ r,R.getD j rc0=r:=⟨_,rfl⟩
    rw [hr] at hc0 hrw hins
    have r0:=(hk _).trans hc0.1
    have r1:=(hk _).trans hc0.2.1
    have r2:=(hk _).trans hc0.2.2.1
    have r3:=(hk _).trans hc0.2.2.2
    subst hA
    obtain ⟨hcw,C',cc',N,t,tt,hT,hP,hC,h1,h2,h3⟩:=hrel.out
    have PI:=Lib.hid (pinsert_any (w.heap.size+1) (w.heap.size+1+1) cc' C' N t (insN R j) r wr hP (by have:=insN_len R j;omega) hrw)
    have HZ:=Lib.hid (show Chg (fun j=>w.heap.size < j) X3.w wr∧Tb wr X1.w.heap.size qt bt 0 L (fun j=>X2.w.heap.size≤j)∧CtI wr qc bm 0 tt []∧(∀ j,(PX (w.heap.size+1+1) C' N j∨j=w.heap.size+1)→w.heap.size < j∧(j < X1.w.heap.size∨X2.w.heap.size≤j))∧(∀ j,(CX bm tt j∨j=qc)→X2.w.heap.size≤j)∧(∀ j,(PX (w.heap.size+1+1) C' N j∨j=w.heap.size+1)→¬ (CX bm tt j∨j=qc))∧insN R (j+1)=insR (insN R j) r from ⟨hcw,hT,hC,h1,h2,h3,hins⟩)
    clear hrel hcw hT hP hC h1 h2 h3 hins hr hc hc0 hk hrw
    go_wp2_with fail
    go_at_call 21
    refine PI.out.mono ?_
    rintro e w5 ⟨⟨zz,rfl⟩,C5,cc5,N5,t5,hP5,hc5,hX5⟩
    have hs5:=hc5.size
    have HE:=Lib.hid (show Chg (fun j=>w.heap.size < j) X3.w w5∧WI w.heap.size X1.w.heap.size X2.w.heap.size qt bt (w.heap.size+1) (w.heap.size+1+1) qc bm 0 L (insN R (j+1)) [] w5 by
     obtain ⟨hcw,hT,hC,h1,h2,h3,hins⟩:=HZ.out
     refine ⟨hcw.trans hc5 (fun k hk => .inl (h1 k hk.symm).1),C5,cc5,N5,t5,tt,hT.step (fun k hk hnk hkl=>hc5.block k hkl (fun e=>by have:=(h1 k e.symm).2;omega)) hc5.size (fun x hx => .inl hx),by rw [hins];exact hP5,hC.chg hc5 (fun e=>h3 qc e.symm (.inr rfl)) (fun k hk e=>h3 k e.symm (.inl hk)),fun k hk=>?_,h2,fun k hk e=>?_⟩
     ·rcases hk with hk|hk
      ·rcases hX5 k hk with hk|hk
       ·exact h1 k (.inl hk)
       ·exact ⟨by omega, .inr (by omega)⟩
      ·exact h1 k (.inr hk)
     ·rcases hk with hk|hk
      ·rcases hX5 k hk with hk|hk
       ·exact h3 k (.inl hk) e
       ·rcases e with e|e
        ·have:=(hC.far k e).1;omega
        ·have:=hC.lt;omega
      ·exact h3 k (.inr hk) e)
    have hsz5:X3.w.heap.size≤w5.heap.size:=by omega
    clear hP5 hc5 hX5 r0 r1 r2 r3
    go_wp2_with fail
    go_roundw
    case rel=>exact ⟨j+1,by omega,by go_num,hsz5,HE.out⟩
    case measure=>simp [intOf];omega
   ·obtain rfl:j=nr:=by omega
    have hdj:decide ((j:Int) < (j:Int))=false:=decide_eq_false (by omega)
    have HM:=Lib.hid hrel.out
    clear hrel
    go_wp2_with fail
    go_loopw [14] (fun i wr=>∃ k:Nat,k≤ns∧i = .int .i64 k∧X3.w.heap.size≤wr.heap.size∧Hid (Chg (fun j=>w.heap.size < j) X3.w wr∧WI w.heap.size X1.w.heap.size X2.w.heap.size qt bt (w.heap.size+1) (w.heap.size+1+1) qc bm k L (insN R j) (putN S k) wr)) (fun i _=>ns - (intOf i).toNat)
    case atStart=>exact ⟨0,Nat.zero_le _,rfl,hsz,HM.out⟩
    case round=>
     obtain ⟨k,hk,rfl,hsz,hrel⟩:=hrel
     by_cases hlt2:k < ns
     ·have hjL:k < S.length:=by rw [HRS.out.2.2.2.2.1];exact hlt2
      obtain ⟨bb,o,hA,hB,hc⟩:=HRS.out.2.2.2.1 (by omega)
      have hc0:=hc k hjL
      have hkc:∀ i,wr.cell? ⟨bb,i,none⟩=w.cell? ⟨bb,i,none⟩:=fun i=>(hrel.out.1.cell (p:=⟨bb,i,none⟩) (by show bb < _;omega) (by show ¬ w.heap.size < bb;omega)).trans (HW3.out.cell (p:=⟨bb,i,none⟩) hB)
      have hsw:=HRS.out.2.2.2.2.2 (S.getD k sh0) (by rw [show S.getD k sh0=S[k] by simp [List.getD,List.getElem?_eq_getElem hjL]];exact List.getElem_mem hjL)
      have hput:putN S (k+1)=putS (putN S k) (S.getD k sh0):=rfl
      obtain ⟨s,hs⟩:∃ s,S.getD k sh0=s:=⟨_,rfl⟩
      rw [hs] at hc0 hsw hput
      have r0:=(hkc _).trans hc0.1
      have r1:=(hkc _).trans hc0.2.1
      have r2:=(hkc _).trans hc0.2.2.1
      have r3:=(hkc _).trans hc0.2.2.2.1
      have r4:=(hkc _).trans hc0.2.2.2.2.1
      have r5:=(hkc _).trans hc0.2.2.2.2.2
      subst hA
      obtain ⟨hcw,C',cc',N,t,tt,hT,hP,hC,h1,h2,h3⟩:=hrel.out
      have PI:=Lib.hid (cput_any qc bm k tt (putN S k) s wr hC hsw (by have:=putN_len S k;omega) (by omega))
      have HZ:=Lib.hid (show Chg (fun j=>w.heap.size < j) X3.w wr∧Tb wr X1.w.heap.size qt bt 0 L (fun j=>X2.w.heap.size≤j)∧PtI wr (w.heap.size+1) (w.heap.size+1+1) C' cc' N t (insN R j)∧(∀ j,(PX (w.heap.size+1+1) C' N j∨j=w.heap.size+1)→w.heap.size < j∧(j < X1.w.heap.size∨X2.w.heap.size≤j))∧(∀ j,(CX bm tt j∨j=qc)→X2.w.heap.size≤j)∧(∀ j,(PX (w.heap.size+1+1) C' N j∨j=w.heap.size+1)→¬ (CX bm tt j∨j=qc))∧putN S (k+1)=putS (putN S k) s from ⟨hcw,hT,hP,h1,h2,h3,hput⟩)
      clear hrel hcw hT hP hC h1 h2 h3 hput hs hc hc0 hkc hsw
      go_wp2_with fail
      go_at_call 22
      refine PI.out.mono ?_
      rintro e w5 ⟨⟨zz,rfl⟩,t5,hC5,hc5,hX5⟩
      have hs5:=hc5.size
      have HE:=Lib.hid (show Chg (fun j=>w.heap.size < j) X3.w w5∧WI w.heap.size X1.w.heap.size X2.w.heap.size qt bt (w.heap.size+1) (w.heap.size+1+1) qc bm (k+1) L (insN R j) (putN S (k+1)) w5 by
       obtain ⟨hcw,hT,hP,h1,h2,h3,hput⟩:=HZ.out
       have hX6:∀ u,CX bm t5 u→CX bm tt u∨wr.heap.size≤u:=fun u hu=>hu.elim (fun e => .inl (.inl e)) (fun e=>(hX5 u e).elim (fun e => .inl (.inr e)) .inr)
       refine ⟨hcw.trans hc5 (fun u hu => .inl (by have:=h2 u (.inl hu);omega)),C',cc',N,t,t5,hT.step (fun u hu hnu hul=>hc5.block u hul (fun e=>hnu (h2 u (.inl e)))) hc5.size (fun x hx => .inl hx),hP.chg hc5 (fun u hu e=>h3 u (.inl hu) (.inl e)) (fun e=>h3 _ (.inr rfl) (.inl e)),by rw [hput];exact hC5,h1,fun u hu=>?_,fun u hu e=>?_⟩
       ·rcases hu with hu|hu
        ·exact (hX6 u hu).elim (fun e=>h2 u (.inl e)) (fun e=>by omega)
        ·exact h2 u (.inr hu)
       ·rcases e with e|e
        ·exact (hX6 u e).elim (fun e=>h3 u hu (.inl e)) (fun e=>by have:=hP.pxl u hu;omega)
        ·exact h3 u hu (.inr e))
      have hsz5:X3.w.heap.size≤w5.heap.size:=by omega
      clear hC5 hc5 hX5 r0 r1 r2 r3 r4 r5
      go_wp2_with fail
      go_roundw
      case rel=>exact ⟨k+1,by omega,by go_num,hsz5,HE.out⟩
      case measure=>simp [intOf];omega
     ·obtain rfl:k=ns:=by omega
      have hdk:decide ((k:Int) < (k:Int))=false:=decide_eq_false (by omega)
      have hcw0:=hrel.out.1
      have hnr:¬ w.heap.size < w.heap.size:=Nat.lt_irrefl _
      have q0:wr.cell? ⟨w.heap.size,0,none⟩=some (.pointer none):=(hcw0.cell (p:=⟨w.heap.size,0,none⟩) (by show w.heap.size < _;omega) hnr).trans y0
      have q1:wr.cell? ⟨w.heap.size,1,none⟩=some (.pointer none):=(hcw0.cell (p:=⟨w.heap.size,1,none⟩) (by show w.heap.size < _;omega) hnr).trans y1
      have q2:wr.cell? ⟨w.heap.size,2,none⟩=some (.pointer none):=(hcw0.cell (p:=⟨w.heap.size,2,none⟩) (by show w.heap.size < _;omega) hnr).trans y2
      have p0:wr.frozen? ⟨w.heap.size,0,none⟩=false:=(hcw0.frozen (p:=⟨w.heap.size,0,none⟩) (by show w.heap.size < _;omega) hnr).trans u0
      have p1:wr.frozen? ⟨w.heap.size,1,none⟩=false:=(hcw0.frozen (p:=⟨w.heap.size,1,none⟩) (by show w.heap.size < _;omega) hnr).trans u1
      have p2:wr.frozen? ⟨w.heap.size,2,none⟩=false:=(hcw0.frozen (p:=⟨w.heap.size,2,none⟩) (by show w.heap.size < _;omega) hnr).trans u2
      have HV:=Lib.hid (show Post (.returned (.tuple #[.agg #[.pointer (some ⟨w.heap.size+1+1,0,none⟩), .pointer (some ⟨qc,0,none⟩), .pointer (some ⟨qt,0,none⟩)], .bool true])) (((wr.setCell ⟨w.heap.size,0,none⟩ (.pointer (some ⟨w.heap.size+1+1,0,none⟩))).setCell ⟨w.heap.size,1,none⟩ (.pointer (some ⟨qc,0,none⟩))).setCell ⟨w.heap.size,2,none⟩ (.pointer (some ⟨qt,0,none⟩))) by
       have hcV:Chg (fun j=>j=w.heap.size) wr (((wr.setCell ⟨w.heap.size,0,none⟩ (.pointer (some ⟨w.heap.size+1+1,0,none⟩))).setCell ⟨w.heap.size,1,none⟩ (.pointer (some ⟨qc,0,none⟩))).setCell ⟨w.heap.size,2,none⟩ (.pointer (some ⟨qt,0,none⟩))):=(((Chg.refl (X:=fun j=>j=w.heap.size)).set (p:=⟨w.heap.size,0,none⟩) (.inl rfl) _).set (p:=⟨w.heap.size,1,none⟩) (.inl rfl) _).set (p:=⟨w.heap.size,2,none⟩) (.inl rfl) _
       obtain ⟨hcw,C',cc',N,t,tt,hT,hP,hC,h1,h2,h3⟩:=hrel.out
       rw [← hW]
       refine ⟨HW3.out.trans ((hcw.below (B:=w.heap.size) (fun u hu=>Nat.le_of_lt hu) hs3).trans (hcV.below (B:=w.heap.size) (fun u hu=>by have e':u=w.heap.size:=hu;omega) (by omega))), .inl ⟨w.heap.size+1+1,qc,X1.w.heap.size,qt,bt,w.heap.size+1,C',cc',N,t,bm,k,tt,rfl,?_,?_,?_,?_,?_,by omega⟩⟩
       ·exact (hT.step (fun u hu _ hul=>hcV.block u hul (fun e=>by have e':u=w.heap.size:=e;omega)) hcV.size (fun x hx => .inl hx)).bare
       ·rw [HRS.out.2.1]
        exact hP.chg hcV (fun u hu e=>by have e':u=w.heap.size:=e;have:=(h1 u (.inl hu)).1;omega) (fun e=>by have e':w.heap.size+1=w.heap.size:=e;omega)
       ·rw [HRS.out.2.2.2.2.1]
        exact hC.chg hcV (fun e=>by have e':qc=w.heap.size:=e;have:=h2 qc (.inr rfl);omega) (fun u hu e=>by have e':u=w.heap.size:=e;have:=h2 u (.inl hu);omega)
       ·exact fun u hu=>by have:=(h1 u hu).2;omega
       ·exact fun u hu=>by have:=h2 u hu;omega)
      clear hrel hcw0 hnr y0 y1 y2 u0 u1 u2
      go_wp2_with fail
      refine bodyPost_ret (by simp only [results,Tryz.results6];go_simp;all_goals (first|rfl|simp [sel])) rfl HV.out
 ·have hfn:(f != 0)=true:=by simpa using hf
  obtain ⟨X2,rfl,hl2,hm2⟩:=later _ hb (Nat.le_refl _)
  clear hnot hf hb
  go_wp2_with fail
  go_at_call 20
  refine (PC.out _).mono ?_
  rintro e w' ⟨qc,bm,tt,rfl,hC,hqc,hCX,hb⟩
  obtain ⟨X3,rfl,hl3,hm3⟩:=later _ hb (Nat.le_refl _)
  clear hb hC hCX
  go_wp2_with fail
  have hw3:Below w.heap.size w X3.w:=q9l
  have HE:=Lib.hid (HF.out (((X3.w.setCell ⟨w.heap.size,0,none⟩ (.pointer none)).setCell ⟨w.heap.size,1,none⟩ (.pointer none)).setCell ⟨w.heap.size,2,none⟩ (.pointer none)) (((hw3.setCell (Nat.le_refl _) _).setCell (Nat.le_refl _) _).setCell (Nat.le_refl _) _))
  clear hw3
  refine bodyPost_ret (by simp only [results,Tryz.results6];go_simp;all_goals (first|rfl|simp [sel])) rfl HE.out
end Go.Proofs.YthlijfligikciaaGreat
namespace Go.Proofs.YthlijfligikciaaGreat
open Go.ChangeShapes Go.WideShapes Go.ChangeAt Go.RowKit
set_option linter.unusedSimpArgs false
set_option linter.unusedVariables false
set_option maxRecDepth 4000
section
variable {H:Type} {enc:TypeId × Value→H} {W:World} {base:Nat} {held:Bool} {fuel:Nat} {x:DataW H × List MemPlace}
theorem cells_shape:Tryz.prog.cellsOf 75=6:=by kernel_rfl
theorem open_rec4 {v0 v1 v2 v3:Value} (h:DataW.trod enc Tryz.prog W base (fun _=>true) held fuel 32 [v0,v1,v2,v3]=some x):∃ r:Rc,[v0,v1,v2,v3]=rcC r∧wf64 r.id:=by
 obtain ⟨xs,n',hn',hx',hcl,hxl,hf⟩:=DataW.trod_struct Tryz.underlying32 h
 match xs,hxl with
 | [y0,y1,y2],_=>
  have h0:=hf 0 _ rfl
  have h1:=hf 1 _ rfl
  have h2:=hf 2 _ rfl
  simp [cells_int,cells_pt] at h0 h1 h2
  obtain ⟨a,rfl,wa⟩:=open_z h0
  obtain ⟨b,c,hb⟩:=open_pt2 h1
  obtain ⟨e,rfl,_⟩:=open_z h2
  refine ⟨⟨a,b,c,e⟩,?_,wa⟩
  simp only [List.cons.injEq,and_true] at hb
  obtain ⟨rfl,rfl⟩:=hb
  rfl
theorem open_sh6 {v0 v1 v2 v3 v4 v5:Value} (h:DataW.trod enc Tryz.prog W base (fun _=>true) held fuel 75 [v0,v1,v2,v3,v4,v5]=some x):∃ s:Sh,[v0,v1,v2,v3,v4,v5]=shC s∧wf64 s.id:=by
 obtain ⟨xs,n',hn',hx',hcl,hxl,hf⟩:=DataW.trod_struct Tryz.underlying75 h
 match xs,hxl with
 | [y0,y1,y2],_=>
  have h0:=hf 0 _ rfl
  have h1:=hf 1 _ rfl
  have h2:=hf 2 _ rfl
  simp [cells_int,cells_rc] at h0 h1 h2
  obtain ⟨a,rfl,wa⟩:=open_z h0
  obtain ⟨⟨b,c,d,e⟩,hb⟩:=open_rc4 h1
  obtain ⟨l,rfl,_⟩:=open_z h2
  refine ⟨⟨a,b,c,d,e,l⟩,?_,wa⟩
  simp only [List.cons.injEq,and_true] at hb
  obtain ⟨rfl,rfl,rfl,rfl⟩:=hb
  rfl
theorem open_recs {a:Option Addr} {len cap:Nat} (h:DataW.trod enc Tryz.prog W base (fun _=>true) held fuel 53 [.slice a len cap]=some x):∃ R:List Rc,R.length=len∧Rcs W a R∧∀ r ∈ R,wf64 r.id:=by
 rcases Go.Deep.open_slice Tryz.underlying53 h with ⟨hcs,_⟩|⟨ad,len',cap',m,n,D,Pl,hcs,hb,hl,hm,hmm,hx,hi⟩
 ·simp at hcs
  obtain ⟨rfl,rfl,rfl⟩:=hcs
  exact ⟨[],rfl,fun h=>absurd h (by simp),fun r hr=>by cases hr⟩
 ·simp at hcs
  obtain ⟨rfl,rfl,rfl⟩:=hcs
  have key:∀ i,i < len→∃ r:Rc,(∀ j,j < 4→W.cell? ((ad.add (i*4)).add j)=(rcC r)[j]?)∧wf64 r.id:=fun i hlt=>by
   obtain ⟨cs',hc,ht⟩:=hi i (by rw [hmm];split <;> omega)
   rw [cells_rec] at hc
   obtain ⟨_,hlen,hget⟩:=World.cells?_some hc
   match cs',hlen with
   | [v0,v1,v2,v3],_=>
    obtain ⟨r,hr,h1⟩:=open_rec4 ht
    refine ⟨r,fun j hj=>?_,h1⟩
    rw [hget j hj,← hr]
  obtain ⟨M,hM,hP⟩:=list_of rc0 len key
  subst hM
  refine ⟨M,rfl,fun hp=>?_,fun r hr=>?_⟩
  ·have h0:W.cell? ((ad.add (0*4)).add 0)=some _:=(hP 0 hp).1 0 (by omega)
   obtain ⟨b,o,sp⟩:=ad
   have hsp:sp=none:=by simpa [Addr.add] using World.cell?_spot h0
   subst hsp
   refine ⟨b,o,rfl,by have:=World.block_lt_of_cell? _ _ h0;simpa [Addr.add] using this,fun i hi=>?_⟩
   have hc:∀ j,j < 4→W.cell? ⟨b,o+i*4+j,none⟩=(rcC (M.getD i rc0))[j]? := fun j hj=>by
    have:=(hP i hi).1 j hj
    rw [Addr.add_lit,Addr.add_lit] at this
    exact this
   exact ⟨hc 0 (by decide),hc 1 (by decide),hc 2 (by decide),hc 3 (by decide)⟩
  ·obtain ⟨i,hi,rfl⟩:=List.mem_iff_getElem.1 hr
   have h9:=(hP i hi).2
   rwa [show M.getD i rc0=M[i] by simp [List.getD,List.getElem?_eq_getElem hi]] at h9
theorem open_shapes {a:Option Addr} {len cap:Nat} (h:DataW.trod enc Tryz.prog W base (fun _=>true) held fuel 54 [.slice a len cap]=some x):∃ S:List Sh,S.length=len∧Shs W a S∧∀ s ∈ S,wf64 s.id:=by
 rcases Go.Deep.open_slice Tryz.underlying54 h with ⟨hcs,_⟩|⟨ad,len',cap',m,n,D,Pl,hcs,hb,hl,hm,hmm,hx,hi⟩
 ·simp at hcs
  obtain ⟨rfl,rfl,rfl⟩:=hcs
  exact ⟨[],rfl,fun h=>absurd h (by simp),fun r hr=>by cases hr⟩
 ·simp at hcs
  obtain ⟨rfl,rfl,rfl⟩:=hcs
  have key:∀ i,i < len→∃ s:Sh,(∀ j,j < 6→W.cell? ((ad.add (i*6)).add j)=(shC s)[j]?)∧wf64 s.id:=fun i hlt=>by
   obtain ⟨cs',hc,ht⟩:=hi i (by rw [hmm];split <;> omega)
   rw [cells_shape] at hc
   obtain ⟨_,hlen,hget⟩:=World.cells?_some hc
   match cs',hlen with
   | [v0,v1,v2,v3,v4,v5],_=>
    obtain ⟨r,hr,h1⟩:=open_sh6 ht
    refine ⟨r,fun j hj=>?_,h1⟩
    rw [hget j hj,← hr]
  obtain ⟨M,hM,hP⟩:=list_of sh0 len key
  subst hM
  refine ⟨M,rfl,fun hp=>?_,fun r hr=>?_⟩
  ·have h0:W.cell? ((ad.add (0*6)).add 0)=some _:=(hP 0 hp).1 0 (by omega)
   obtain ⟨b,o,sp⟩:=ad
   have hsp:sp=none:=by simpa [Addr.add] using World.cell?_spot h0
   subst hsp
   refine ⟨b,o,rfl,by have:=World.block_lt_of_cell? _ _ h0;simpa [Addr.add] using this,fun i hi=>?_⟩
   have hc:∀ j,j < 6→W.cell? ⟨b,o+i*6+j,none⟩=(shC (M.getD i sh0))[j]? := fun j hj=>by
    have:=(hP i hi).1 j hj
    rw [Addr.add_lit,Addr.add_lit] at this
    exact this
   exact ⟨hc 0 (by decide),hc 1 (by decide),hc 2 (by decide),hc 3 (by decide),hc 4 (by decide),hc 5 (by decide)⟩
  ·obtain ⟨i,hi,rfl⟩:=List.mem_iff_getElem.1 hr
   have h9:=(hP i hi).2
   rwa [show M.getD i sh0=M[i] by simp [List.getD,List.getElem?_eq_getElem hi]] at h9
theorem open_point {r:Reach} {b0:Nat} {v:Value} {d:DataW H} {p:List MemPlace} (hv:Value.okWide Tryz.prog W r b0 30 v) (h:DataW.Trod enc Tryz.prog W base (fun _=>true) held 30 v d p):∃ px py,v = .agg #[.int .i64 px, .int .i64 py]:=by
 obtain ⟨cs,rfl,hsz⟩:=okWide_struct Tryz.underlying30 hv
 obtain ⟨l⟩:=cs
 match l,hsz.trans cells_pt with
 | [v0,v1],_=>
  obtain ⟨fuel,hf0⟩:=h
  obtain ⟨a,b,hb⟩:=open_pt2 (by simpa [Value.cells] using hf0)
  simp only [List.cons.injEq,and_true] at hb
  obtain ⟨rfl,rfl⟩:=hb
  exact ⟨a,b,rfl⟩
end
end Go.Proofs.YthlijfligikciaaGreat
namespace Go.Proofs.YthlijfligikciaaGreat
open Go.RowKit Go.Maps
set_option linter.unusedSimpArgs false
set_option linter.unusedVariables false
set_option maxRecDepth 2000
theorem hup_zero (v:Value) (w:World):Calls Tryz.prog 151 #[v, .int .i64 0] w fun e w'=>e = .returned (.tuple #[])∧Below w.heap.size w w':=by
 go_enter Tryz.func151,Tryz.ntmps151
 go_wp2_with fail
 go_loopw [1] (fun j wr=>j = .int .i64 0∧Below w.heap.size w wr) (fun _ _=>0)
 case atStart=>exact ⟨rfl,Below.refl _ _⟩
 case round=>
  obtain ⟨rfl,hb⟩:=hrel
  obtain ⟨X,rfl⟩:∃ X:Later w.heap.size w,wr=X.w:=⟨⟨wr,hb⟩,rfl⟩
  go_wp2_with fail
  first|exact bodyPost_end (v := .tuple #[]) (by first|rfl|kernel_rfl) rfl ⟨rfl,hb⟩|trace_state
theorem hdown_zero (v:Value) (w:World):Calls Tryz.prog 152 #[v, .int .i64 0, .int .i64 0] w fun e w'=>e = .returned (.bool false)∧Below w.heap.size w w':=by
 go_enter Tryz.func152,Tryz.ntmps152
 go_wp2_with fail
 go_loopw [7] (fun j wr=>j = .int .i64 0∧Below w.heap.size w wr) (fun _ _=>0)
 case atStart=>exact ⟨rfl,Below.refl _ _⟩
 case round=>
  obtain ⟨rfl,hb⟩:=hrel
  obtain ⟨X,rfl⟩:∃ X:Later w.heap.size w,wr=X.w:=⟨⟨wr,hb⟩,rfl⟩
  go_wp2_with fail
  first|(go_ret;exact ⟨rfl,hb⟩)|trace_state
set_option maxHeartbeats 8000000 in
theorem hpush_none (s cc:Nat) (C:Option Addr) (k t i:Int) (w:World) (h:Qu w s C 0 cc []):
  Calls Tryz.prog 119 #[.iface 221 (.pointer (some ⟨s,0,none⟩)), .iface 165 (.agg #[.int .u64 k, .int .u64 t, .int .i64 i])] w fun e w'=>e = .returned (.tuple #[])∧∃ C' cc',Qu w' s C' 1 cc' [.int .u64 k, .int .u64 t, .int .i64 i]∧Chg (fun j=>j=s∨gP C j) w w'∧∀ j,gP C' j→gP C j∨w.heap.size≤j:=by
 have PU:=Lib.hid (fun (v:Value) (Y:World)=>hup_zero v Y)
 have PP:=Lib.hid (tpush_any s 0 cc C [] k t i w h (by omega))
 go_enter Tryz.func119,Tryz.ntmps119
 go_wp2_with fail
 refine PP.out.mono ?_
 rintro e w1 ⟨rfl,C',cc',hq,hc,hC⟩
 have PL:=Lib.hid (tlen_any s 1 cc' C' _ w1 hq)
 have HQ:=Lib.hid (And.intro hq (And.intro hc hC))
 clear hq hc hC
 go_wp2_with fail
 refine PL.out.mono ?_
 rintro e w2 ⟨rfl,hb2⟩
 go_wp2_with fail
 go_at_call 151
 refine (PU.out _ _).mono ?_
 rintro e w3 ⟨rfl,hb3⟩
 go_wp2_with fail
 have hb:Below w1.heap.size w1 w3:=hb2.trans (hb3.mono hb2.size)
 exact bodyPost_end (v := .tuple #[]) (by first|rfl|kernel_rfl) rfl ⟨rfl,C',cc',HQ.out.1.keep hb,HQ.out.2.1.trans (Chg.of (X:=fun _=>False) hb) (fun k hk=>hk.elim),HQ.out.2.2⟩
set_option maxHeartbeats 8000000 in
theorem hpop_one (s cc:Nat) (C:Option Addr) (k t i:Int) (w:World) (h:Qu w s C 1 cc [.int .u64 k, .int .u64 t, .int .i64 i]):
  Calls Tryz.prog 122 #[.iface 221 (.pointer (some ⟨s,0,none⟩))] w fun e w'=>e = .returned (.iface 165 (.agg #[.int .u64 k, .int .u64 t, .int .i64 i]))∧Qu w' s C 0 cc []∧Chg (fun j=>j=s∨gP C j) w w':=by
 have PD:=Lib.hid (fun (v:Value) (Y:World)=>hdown_zero v Y)
 have PL:=Lib.hid (tlen_any s 1 cc C _ w h)
 have H:=Lib.hid h
 clear h
 go_enter Tryz.func122,Tryz.ntmps122
 go_wp2_with fail
 refine PL.out.mono ?_
 rintro e w1 ⟨rfl,hb1⟩
 have PS:=Lib.hid (tswap_one s cc C k t i w1 (H.out.keep hb1))
 go_wp2_with fail
 refine PS.out.mono ?_
 rintro e w2 ⟨rfl,hq2,hc2⟩
 have HQ2:=Lib.hid (And.intro hq2 hc2)
 clear hq2 hc2
 go_wp2_with fail
 go_at_call 152
 refine (PD.out _ _).mono ?_
 rintro e w3 ⟨rfl,hb3⟩
 have PP:=Lib.hid (tpop_one s cc C k t i w3 (HQ2.out.1.keep hb3))
 go_wp2_with fail
 refine PP.out.mono ?_
 rintro e w4 ⟨rfl,hq4,hc4⟩
 have HE:=Lib.hid (show Qu w4 s C 0 cc []∧Chg (fun j=>j=s∨gP C j) w w4 from ⟨hq4,((((Chg.of (X:=fun j=>j=s∨gP C j) hb1).trans HQ2.out.2 (fun k hk => .inl (.inr hk))).trans (Chg.of (X:=fun _=>False) hb3) (fun k hk=>hk.elim)).trans hc4 (fun k hk => .inl (.inl hk)))⟩)
 clear hq4 hc4
 go_wp2_with fail
 go_ret
 exact ⟨rfl,HE.out.1,HE.out.2⟩
theorem Qu.set {w:World} {s n cc:Nat} {C:Option Addr} {xs:List Value} (h:Qu w s C n cc xs) {p:Addr} (h1:p.block≠s) (h2:¬ gP C p.block) (u:Value):Qu (w.setCell p u) s C n cc xs:=
 ⟨(World.cell?_of_block (a:=⟨s,0,none⟩) (Below.heap_setCell w p u s (fun e=>h1 e.symm))).trans h.c0,(World.frozen?_of_block (a:=⟨s,0,none⟩) (Below.heap_setCell w p u s (fun e=>h1 e.symm))).trans h.fz,own_setO h.own (fun k hk e=>h2 (by rw [gOf_own] at hk;rw [e];exact hk)) u⟩
theorem Qu.alloc {w:World} {s n cc:Nat} {C:Option Addr} {xs:List Value} (h:Qu w s C n cc xs) (o:Obj):Qu (w.alloc o) s C n cc xs:=h.keep ((Below.refl _ _).alloc (Nat.le_refl _) _)
theorem Qu.drew {w:World} {s n cc:Nat} {C:Option Addr} {xs:List Value} (h:Qu w s C n cc xs):Qu w.drew s C n cc xs:=h.keep (Below.drew (Below.refl _ _))
theorem Qu.chg {w w':World} {X:Nat→Prop} {s n cc:Nat} {C:Option Addr} {xs:List Value} (h:Qu w s C n cc xs) (hc:Chg X w w') (h1:¬ X s) (h2:∀ k,gP C k→¬ X k):Qu w' s C n cc xs:=
 ⟨(hc.cell (p:=⟨s,0,none⟩) h.lt h1).trans h.c0,(hc.frozen (p:=⟨s,0,none⟩) h.lt h1).trans h.fz,by
  refine ⟨h.own.1,?_⟩
  rcases h.own.2 with hn|⟨g,cap,cur,hv,hbase,hg,rest⟩
  ·exact .inl hn
  ·refine .inr ⟨g,cap,cur,hv,hbase,(hc.block g (Array.getElem?_eq_some_iff.1 hg).1 (h2 g ?_)).trans hg,rest⟩
   injection hv with hv
   subst hv
   rfl⟩
theorem qnew_any (w:World):Calls Tryz.prog 81 #[] w fun e w'=>e = .returned (.pointer (some ⟨w.heap.size,0,none⟩))∧Qu w' w.heap.size none 0 0 []∧Below w.heap.size w w':=by
 go_enter Tryz.func81,Tryz.ntmps81
 go_wp2
 go_ret
 exact ⟨rfl,⟨by go_simp,by go_simp,World.ownsRow_nil _ _ _ _⟩,q9o⟩
set_option maxHeartbeats 8000000 in
theorem qpush_none (s cc:Nat) (C:Option Addr) (k t i:Int) (w:World) (h:Qu w s C 0 cc []):
  Calls Tryz.prog 86 #[.pointer (some ⟨s,0,none⟩), .agg #[.int .u64 k, .int .u64 t, .int .i64 i]] w fun e w'=>e = .returned (.bool true)∧∃ C' cc',Qu w' s C' 1 cc' [.int .u64 k, .int .u64 t, .int .i64 i]∧Chg (fun j=>j=s∨gP C j) w w'∧∀ j,gP C' j→gP C j∨w.heap.size≤j:=by
 have PH:=Lib.hid (fun (Y:World) (hY:Below w.heap.size w Y)=>hpush_none s cc C k t i Y (h.keep hY))
 clear h
 go_enter Tryz.func86,Tryz.ntmps86
 go_wp2_with fail
 (refine wp_region_later_tail 6 (w.heap.size+1) (by kernel_rfl) (by kernel_rfl) (by go_size) ?_;simp only [List.take_succ_cons,List.take_zero,List.drop_succ_cons,List.drop_zero];(repeat (go_big_quiet_step (fail)));refine wpQuiet_nil ?_;intro Xq hlXq hmXq)
 have hbq:Below w.heap.size w Xq.w:=q9l
 go_wp2_with fail
 go_at_call 119
 refine (PH.out _ hbq).mono ?_
 rintro e w1 ⟨rfl,C',cc',hq,hc,hC⟩
 have HQ:=Lib.hid (show Qu w1 s C' 1 cc' _∧Chg (fun j=>j=s∨gP C j) w w1∧∀ j,gP C' j→gP C j∨w.heap.size≤j from ⟨hq,(Chg.of (X:=fun j=>j=s∨gP C j) hbq).trans hc (fun k hk => .inl hk),fun j hj=>(hC j hj).elim .inl (fun h9 => .inr (Nat.le_trans hbq.size h9))⟩)
 clear hq hc hC
 go_wp2_with fail
 go_ret
 exact ⟨rfl,C',cc',HQ.out⟩
set_option maxHeartbeats 8000000 in
theorem qpop_one (s cc:Nat) (C:Option Addr) (k t i:Int) (w:World) (h:Qu w s C 1 cc [.int .u64 k, .int .u64 t, .int .i64 i]):
  Calls Tryz.prog 89 #[.pointer (some ⟨s,0,none⟩)] w fun e w'=>e = .returned (.tuple #[.agg #[.int .u64 k, .int .u64 t, .int .i64 i], .bool true])∧Qu w' s C 0 cc []∧Chg (fun j=>j=s∨gP C j) w w':=by
 have H:=Lib.hid h
 have c0:=h.c0
 have hs:=h.lt
 have hrow:=h.rowlt
 have has:=assert_entry
 clear h
 go_enter Tryz.func89,Tryz.ntmps89
 go_wp2_with fail
 have PH:=Lib.hid (hpop_one s cc C k t i (w.alloc (.cells #[.int .u64 0, .int .u64 0, .int .i64 0] 165)) (H.out.keep ((Below.refl _ _).alloc (Nat.le_refl _) _)))
 refine PH.out.mono ?_
 rintro e w4 ⟨rfl,hq4,hc4⟩
 have hn:¬ (w.heap.size=s∨gP C w.heap.size):=fun e=>e.elim (fun e=>by omega) (fun e=>by have:=hrow _ e;omega)
 have hz4:=hc4.size
 simp only [World.size_alloc] at hz4
 have e0:w4.cell? ⟨w.heap.size,0,none⟩=some (.int .u64 0):=(hc4.cell (p:=⟨w.heap.size,0,none⟩) (by simp) hn).trans (by go_simp)
 have e1:w4.cell? ⟨w.heap.size,1,none⟩=some (.int .u64 0):=(hc4.cell (p:=⟨w.heap.size,1,none⟩) (by simp) hn).trans (by go_simp)
 have e2:w4.cell? ⟨w.heap.size,2,none⟩=some (.int .i64 0):=(hc4.cell (p:=⟨w.heap.size,2,none⟩) (by simp) hn).trans (by go_simp)
 have f0:w4.frozen? ⟨w.heap.size,0,none⟩=false:=(hc4.frozen (p:=⟨w.heap.size,0,none⟩) (by simp) hn).trans (by go_simp)
 have f1:w4.frozen? ⟨w.heap.size,1,none⟩=false:=(hc4.frozen (p:=⟨w.heap.size,1,none⟩) (by simp) hn).trans (by go_simp)
 have f2:w4.frozen? ⟨w.heap.size,2,none⟩=false:=(hc4.frozen (p:=⟨w.heap.size,2,none⟩) (by simp) hn).trans (by go_simp)
 have HQ:=Lib.hid (show Qu w4 s C 0 cc []∧Chg (fun j=>j=s∨gP C j) w w4 from ⟨hq4,(Chg.of (X:=fun j=>j=s∨gP C j) ((Below.refl w.heap.size w).alloc (Nat.le_refl _) _)).trans hc4 (fun k hk => .inl hk)⟩)
 clear hq4 hc4 hrow
 go_wp2_with fail
 have HE:=Lib.hid (show Qu ((((w4.alloc (.cells #[.int .u64 k, .int .u64 t, .int .i64 i] 165)).setCell ⟨w.heap.size,0,none⟩ (.int .u64 k)).setCell ⟨w.heap.size,1,none⟩ (.int .u64 t)).setCell ⟨w.heap.size,2,none⟩ (.int .i64 i)) s C 0 cc []∧Chg (fun j=>j=s∨gP C j) w ((((w4.alloc (.cells #[.int .u64 k, .int .u64 t, .int .i64 i] 165)).setCell ⟨w.heap.size,0,none⟩ (.int .u64 k)).setCell ⟨w.heap.size,1,none⟩ (.int .u64 t)).setCell ⟨w.heap.size,2,none⟩ (.int .i64 i)) from
  ⟨(((HQ.out.1.alloc _).set (p:=⟨w.heap.size,0,none⟩) (fun e=>hn (.inl e)) (fun e=>hn (.inr e)) _).set (p:=⟨w.heap.size,1,none⟩) (fun e=>hn (.inl e)) (fun e=>hn (.inr e)) _).set (p:=⟨w.heap.size,2,none⟩) (fun e=>hn (.inl e)) (fun e=>hn (.inr e)) _,(((HQ.out.2.alloc _).set (p:=⟨w.heap.size,0,none⟩) (.inr (Nat.le_refl _)) _).set (p:=⟨w.heap.size,1,none⟩) (.inr (Nat.le_refl _)) _).set (p:=⟨w.heap.size,2,none⟩) (.inr (Nat.le_refl _)) _⟩)
 refine bodyPost_ret (by simp only [results,Tryz.results89];go_simp;all_goals (first|rfl|simp [sel])) rfl ⟨rfl,HE.out⟩
set_option maxHeartbeats 8000000 in
theorem qtaken_one (s cc:Nat) (C:Option Addr) (k t i:Int) (w:World) (h:Qu w s C 1 cc [.int .u64 k, .int .u64 t, .int .i64 i]):
  Calls Tryz.prog 120 #[.pointer (some ⟨s,0,none⟩), .int .i64 1, .func (.func 89) #[] #[]] w fun e w'=>∃ A ca,e = .returned (.slice A 1 ca)∧w'.ownsRow w.heap.size 165 3 (.slice A 1 ca) 1 [.int .u64 k, .int .u64 t, .int .i64 i]∧Chg (fun j=>j=s∨gP C j) w w':=by
 obtain ⟨i0,hi,hz0,hz1,hz2⟩:=info_parts (show (Tryz.prog.info? 165).map (fun i=>(i.zero,i.size,i.bytes))=some (some (.agg #[.int .u64 0, .int .u64 0, .int .i64 0]),3,24) by kernel_rfl)
 have PP:=Lib.hid (qpop_one s cc C k t i w h)
 clear h
 go_enter Tryz.func120,Tryz.ntmps120
 go_wp2_with fail
 go_loopw [7] (fun l wr=>∃ n:Nat,n≤1∧Hid ((n=0→l = .slice none 0 0∧wr=w)∧(n=1→∃ A ca,l = .slice A 1 ca∧wr.ownsRow w.heap.size 165 3 (.slice A 1 ca) 1 [.int .u64 k, .int .u64 t, .int .i64 i]∧Chg (fun j=>j=s∨gP C j) w wr))) (fun l _=>match l with | .slice _ n _=>1 - n|_=>0)
 case atStart=>exact ⟨0,by decide,⟨fun _=>⟨rfl,rfl⟩,fun e=>by cases e⟩⟩
 case round=>
  obtain ⟨n,hn,hrel⟩:=hrel
  match n,hn with
  | 0,_=>
   obtain ⟨rfl,rfl⟩:=hrel.out.1 rfl
   clear hrel hn
   go_wp2_with fail
   refine PP.out.mono ?_
   rintro e w2 ⟨rfl,hq2,hc2⟩
   have HQ:=Lib.hid hc2
   have hs2:=hc2.size
   clear hq2 hc2
   have h9:=cells_abc_new (w2.alloc (.cells #[.int .u64 k, .int .u64 t, .int .i64 i] 165)) (.int .u64 k) (.int .u64 t) (.int .i64 i) 165
   rw [show (w2.alloc (.cells #[.int .u64 k, .int .u64 t, .int .i64 i] 165)).heap.size=w2.heap.size+1 by simp] at h9
   have H9:=Lib.hid h9
   clear h9
   go_wp2_with (at_builtin;refine wpList_append_own_at _ rfl _ _ 166 rfl wr.heap.size 165 i0 (.agg #[.int .u64 0, .int .u64 0, .int .i64 0]) 3 24 Tryz.underlying166 hi hz0 hz1 hz2 rfl (by decide) (.slice none 0 0) 0 _ (by rfl) (World.ownsRow_nil _ _ _ _) ⟨w2.heap.size+1,0,none⟩ 1 1 [.int .u64 k, .int .u64 t, .int .i64 i] (by rfl) (by rfl) (H9.out) (by intro u hu;simp at hu;rcases hu with rfl|rfl|rfl <;> rfl) (by unfold maxLen;omega) (by omega) (by simp;omega) ?_)
   intro v3 w3 hown3 hgrow3 _ _
   obtain ⟨A3,k3,rfl⟩:=own_formN hown3
   have HE:=Lib.hid (show w3.ownsRow wr.heap.size 165 3 (.slice A3 1 k3) 1 [.int .u64 k, .int .u64 t, .int .i64 i]∧Chg (fun j=>j=s∨gP C j) wr w3 from ⟨hown3,((HQ.out.alloc _).alloc _).trans (Chg.ofGrown (X:=fun _=>False) hgrow3 (fun k hk=>by cases hk)) (fun k hk=>hk.elim)⟩)
   clear hown3 hgrow3
   go_wp2_with fail
   go_roundw
   case rel=>exact ⟨1,by decide,⟨fun e=>(by cases e),fun _=>⟨A3,k3,rfl,HE.out⟩⟩⟩
   case measure=>show 1 - 1 < 1 - 0;decide
  | 1,_=>
   obtain ⟨A,ca,rfl,hown,hc⟩:=hrel.out.2 rfl
   have HE:=Lib.hid (And.intro hown hc)
   clear hrel hown hc
   go_wp2_with fail
   go_ret
   exact ⟨A,ca,rfl,HE.out⟩
theorem qdrain_one (s cc:Nat) (C:Option Addr) (k t i:Int) (w:World) (h:Qu w s C 1 cc [.int .u64 k, .int .u64 t, .int .i64 i]):
  Calls Tryz.prog 87 #[.pointer (some ⟨s,0,none⟩), .int .i64 1] w fun e w'=>∃ A ca,e = .returned (.slice A 1 ca)∧w'.ownsRow w.heap.size 165 3 (.slice A 1 ca) 1 [.int .u64 k, .int .u64 t, .int .i64 i]∧Chg (fun j=>j=s∨gP C j) w w':=by
 have PT:=Lib.hid (qtaken_one s cc C k t i w h)
 clear h
 go_enter Tryz.func87,Tryz.ntmps87
 go_wp2_with fail
 refine PT.out.mono ?_
 rintro e w2 ⟨A,ca,rfl,hown,hc⟩
 have HE:=Lib.hid (And.intro hown hc)
 clear hown hc
 go_wp2_with fail
 go_ret
 exact ⟨A,ca,rfl,HE.out⟩
end Go.Proofs.YthlijfligikciaaGreat
