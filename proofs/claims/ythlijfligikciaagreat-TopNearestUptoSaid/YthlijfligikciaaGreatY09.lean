/- A part of one proof: TpN TpO GeomS2 CellS. No condition. -/
import Derived.Test.YthlijfligikciaaGreatY08
import Derived.OwnWalk
import Derived.Test.YthlijfligikciaaGreatY01
namespace Go.Proofs.YthlijfligikciaaGreat
open Go.RowKit Go.Maps
set_option linter.unusedSimpArgs false
set_option linter.unusedVariables false
set_option maxRecDepth 2000
def bxV (L:List Bx):List Value:=L.flatMap fun b=>[.int .i64 b.a, .int .i64 b.b, .int .i64 b.c, .int .i64 b.d]
theorem bxV_len (L:List Bx):(bxV L).length=L.length*4:=by
 induction L with
 | nil=>rfl
 | cons b L ih=>simp [bxV] at ih ⊢;omega
theorem bxV_get:∀ (L:List Bx) (i:Nat),i < L.length→∀ j,j < 4→(bxV L)[i*4+j]? = some (bxC (L.getD i bx0) j)
 | [],i,h,_,_=>by cases h
 | x :: L,0,_,j,hj=>by
  simp only [bxV,List.flatMap_cons,Nat.zero_mul,Nat.zero_add]
  rw [List.getElem?_append_left (by simpa using hj)]
  match j,hj with
  | 0,_|1,_|2,_|3,_=>rfl
 | x :: L,i+1,h,j,hj=>by
  have ih:=bxV_get L i (by simpa using h) j hj
  simp only [bxV,List.flatMap_cons] at ih ⊢
  rw [List.getElem?_append_right (by simp;omega)]
  simp only [List.length_cons,List.length_nil]
  rw [show (i+1)*4+j - (0+1+1+1+1)=i*4+j by omega,ih]
  rfl
theorem bxs_own {w:World} {base n c:Nat} {e:TypeId} {A:Option Addr} {L:List Bx} (h:w.ownsRow base e 4 (.slice A n c) n (bxV L)) (hn:L.length=n):Bxs w w.heap.size A L:=fun hp=>by
 subst hn
 obtain ⟨g,cap,hv,_,hlt⟩:=h.form (by omega)
 have hA:A=some ⟨g,0,none⟩:=by injection hv
 subst hA
 refine ⟨g,0,rfl,hlt,fun i hi j hj=>?_⟩
 have:=h.cells (g:=g) rfl (i*4+j) _ (bxV_get L i hi j hj)
 rw [Addr.add_lit] at this
 rw [Nat.add_assoc]
 exact this
def ClonePost (L:List Bx) (n:Nat) (w:World) (e:Ending) (w':World):Prop:=
 ∃ C cc,e = .returned (.slice C n cc)∧(n≤cc∧cc≤9223372036854775807)∧Bxs w' w'.heap.size C L∧(0 < n→∀ a,C=some a→w.heap.size≤a.block)∧Below w.heap.size w w'
theorem eql_rects (a:Option Addr) (n c n' c':Nat) (w:World):(binOp .eql 63 (.slice a n c) (.slice none n' c')).run Tryz.prog w = .ok (.bool a.isNone) w:=Lib.run_eql_slice_nil w _ _ a n c n' c' Tryz.underlying63
set_option maxHeartbeats 4000000 in
theorem cloneB_any (n c:Nat) (A:Option Addr) (L:List Bx) (w:World) (h:Bxs w w.heap.size A L) (hn:L.length=n) (hn1:n≤1048576) (hA:A=none→n=0):
  Calls Tryz.prog 56 #[.slice A n c] w (ClonePost L n w):=by
 have q22:=fun (w:World) (a:Option Addr) (n c n' c':Nat)=>eql_rects a n c n' c' w
 obtain ⟨i0,hi,hz0,hz1,hz2⟩:=info_parts (show (Tryz.prog.info? 24).map (fun i=>(i.zero,i.size,i.bytes))=some (some (.agg #[.int .i64 0, .int .i64 0, .int .i64 0, .int .i64 0]),4,32) by kernel_rfl)
 cases A with
 | none=>
  obtain rfl:=hA rfl
  have HF:=Lib.hid (show ClonePost L 0 w (.returned (.slice none 0 0)) w from ⟨none,0,rfl,⟨Nat.le_refl _,by omega⟩,fun hp=>by omega,fun h0=>by omega,Below.refl _ _⟩)
  generalize ClonePost L 0 w=Post at HF ⊢
  clear h hn
  go_enter Tryz.func56,Tryz.ntmps56
  go_wp2
  exact HF.out
 | some a=>
  have HN:=Lib.hid (show ∀ j u,(bxV L)[j]? = some u→w.cell? (a.add j)=some u from fun j u hj=>by
   have hlt:=(List.getElem?_eq_some_iff.1 hj).1
   rw [bxV_len] at hlt
   obtain ⟨b,o,e,hB,hc⟩:=h (by omega)
   injection e with e
   subst e
   have h9:=hc (j / 4) (by omega) (j % 4) (Nat.mod_lt _ (by decide))
   have h8:=bxV_get L (j / 4) (by omega) (j % 4) (Nat.mod_lt _ (by decide))
   rw [show j / 4*4+j % 4=j by omega] at h8
   rw [h8] at hj
   rw [show o+j / 4*4+j % 4=o+j by omega] at h9
   rw [Addr.add_lit]
   exact h9.trans hj)
  have HF:=Lib.hid (show ∀ v' w1,w1.ownsRow w.heap.size 24 4 v' n (bxV L)→Below w.heap.size w w1→ClonePost L n w (.returned v') w1 from fun v' w1 ho hb=>by
   obtain ⟨C,cc,rfl⟩:=own_formN ho
   exact ⟨C,cc,rfl,own_cap ho,bxs_own ho hn,own_new ho,hb⟩)
  have HL:=Lib.hid (show (bxV L).length=n*4 by rw [bxV_len,hn])
  have H1:=Lib.hid (show ∀ u ∈ bxV L,u.oneCell'=true from fun u hu=>by
   obtain ⟨b,_,hu⟩:=List.mem_flatMap.1 hu
   simp at hu
   rcases hu with rfl|rfl|rfl|rfl <;> rfl)
  generalize ClonePost L n w=Post at HF ⊢
  clear h hn
  go_enter Tryz.func56,Tryz.ntmps56
  go_wp2_with (at_builtin;refine wpList_append_own _ rfl _ _ 63 rfl w.heap.size 24 i0 (.agg #[.int .i64 0, .int .i64 0, .int .i64 0, .int .i64 0]) 4 32 Tryz.underlying63 hi hz0 hz1 hz2 rfl (by decide) _ _ _ rfl (World.ownsRow_made w #[] 0 (Nat.le_refl _) (Nat.zero_le _) (by simp)) a n c (bxV L) rfl HL.out (fun j u hj=>Lib.cell?_alloc_some _ (HN.out j u hj)) H1.out (by unfold maxLen;omega) (by omega) (by simp) ?_)
  intro v' w1 hown hgrow hnil
  have HE:=Lib.hid (HF.out v' w1 (by simpa using hown) (((Below.refl _ w).alloc (Nat.le_refl _) _).grown hgrow (by simp) (by intro k hk;simp [Value.ownBlock] at hk;omega)))
  clear hown hgrow hnil
  go_wp2
  exact HE.out
theorem set7 (A R:List Value) (m:Nat) (hA:A.length=m) (z0 z1 z2 z3 z4 z5 z6 a b c d e f g:Value):
  (((((((A ++ (z0 :: z1 :: z2 :: z3 :: z4 :: z5 :: z6 :: R)).set m a).set (m+1) b).set (m+2) c).set (m+3) d).set (m+4) e).set (m+5) f).set (m+6) g=A ++ (a :: b :: c :: d :: e :: f :: g :: R):=by
 subst hA
 simp [List.set_append_right]
theorem seven {Z:List Value} (h:7≤Z.length):∃ z0 z1 z2 z3 z4 z5 z6 R,Z=z0 :: z1 :: z2 :: z3 :: z4 :: z5 :: z6 :: R:=by
 match Z,h with
 | z0 :: z1 :: z2 :: z3 :: z4 :: z5 :: z6 :: R,_=>exact ⟨z0,z1,z2,z3,z4,z5,z6,R,rfl⟩
theorem own_setO {w:World} {base n size:Nat} {e:TypeId} {v:Value} {xs:List Value} (h:w.ownsRow base e size v n xs) {p:Addr} (hp:∀ k,v.ownBlock=some k→p.block≠k) (u:Value):(w.setCell p u).ownsRow base e size v n xs:=by
 refine ⟨h.1,?_⟩
 rcases h.2 with hn|⟨g,cap,cur,rfl,hbase,hg,rest⟩
 ·exact .inl hn
 ·exact .inr ⟨g,cap,cur,rfl,hbase,(Below.heap_setCell w p u g (fun e=>hp g rfl e.symm)).trans hg,rest⟩
theorem own_rule {w:World} {base g n c m:Nat} {M:List RP} {Z R:List Value} {z0 z1 z2 z3 z4 z5 z6:Value} (h:w.ownsRow base 65 7 (.slice (some ⟨g,0,none⟩) n c) n (mV M ++ Z)) (hm:M.length=m) (hZ:Z=z0 :: z1 :: z2 :: z3 :: z4 :: z5 :: z6 :: R) (x:RP):
  (((((((w.setCell ⟨g,m*7,none⟩ (.int .i64 x.1.kind)).setCell ⟨g,m*7+1,none⟩ (.int .i64 x.1.roles)).setCell ⟨g,m*7+2,none⟩ (.int .i64 x.1.lo)).setCell ⟨g,m*7+3,none⟩ (.int .i64 x.1.hi)).setCell ⟨g,m*7+4,none⟩ (.int .i64 x.1.labels)).setCell ⟨g,m*7+5,none⟩ (.slice x.2.1 x.1.boxes.length x.2.2)).setCell ⟨g,m*7+6,none⟩ (.int .i64 x.1.zoom)).ownsRow base 65 7 (.slice (some ⟨g,0,none⟩) n c) n (mV (M ++ [x]) ++ R):=by
 subst hm hZ
 have h7:=(((((((h.stored (M.length*7) (.int .i64 x.1.kind)).1.stored (M.length*7+1) (.int .i64 x.1.roles)).1.stored (M.length*7+2) (.int .i64 x.1.lo)).1.stored (M.length*7+3) (.int .i64 x.1.hi)).1.stored (M.length*7+4) (.int .i64 x.1.labels)).1.stored (M.length*7+5) (.slice x.2.1 x.1.boxes.length x.2.2)).1.stored (M.length*7+6) (.int .i64 x.1.zoom)).1
 rw [set7 (mV M) R _ (mV_len M)] at h7
 rw [mV_snoc]
 simpa [rpV] using h7
theorem below_set7 {w:World} {g o:Nat} (v0 v1 v2 v3 v4 v5 v6:Value):Below g w (((((((w.setCell ⟨g,o,none⟩ v0).setCell ⟨g,o+1,none⟩ v1).setCell ⟨g,o+2,none⟩ v2).setCell ⟨g,o+3,none⟩ v3).setCell ⟨g,o+4,none⟩ v4).setCell ⟨g,o+5,none⟩ v5).setCell ⟨g,o+6,none⟩ v6):=
 (((((((Below.refl g w).setCell (Nat.le_refl g) _).setCell (Nat.le_refl g) _).setCell (Nat.le_refl g) _).setCell (Nat.le_refl g) _).setCell (Nat.le_refl g) _).setCell (Nat.le_refl g) _).setCell (Nat.le_refl g) _
theorem heap_set7 {w:World} {g o j:Nat} (hj:j≠g) (v0 v1 v2 v3 v4 v5 v6:Value):(((((((w.setCell ⟨g,o,none⟩ v0).setCell ⟨g,o+1,none⟩ v1).setCell ⟨g,o+2,none⟩ v2).setCell ⟨g,o+3,none⟩ v3).setCell ⟨g,o+4,none⟩ v4).setCell ⟨g,o+5,none⟩ v5).setCell ⟨g,o+6,none⟩ v6).heap[j]? = w.heap[j]? := by
 rw [Below.heap_setCell _ _ _ j hj,Below.heap_setCell _ _ _ j hj,Below.heap_setCell _ _ _ j hj,Below.heap_setCell _ _ _ j hj,Below.heap_setCell _ _ _ j hj,Below.heap_setCell _ _ _ j hj,Below.heap_setCell _ _ _ j hj]
def NewPost (L:List Rl) (w:World) (e:Ending) (w':World):Prop:=
 Below w.heap.size w w'∧((L.length≤32∧L.all rightR=true∧∃ q b,e = .returned (.tuple #[.pointer (some ⟨q,0,none⟩), .int .i64 0])∧Tb w' w.heap.size q b 0 L)∨(¬ (L.length≤32∧L.all rightR=true)∧∃ f:Int,f≠0∧e = .returned (.tuple #[.pointer none, .int .i64 f])))
set_option maxHeartbeats 16000000 in
theorem gnew_any (n c:Nat) (A:Option Addr) (L:List Rl) (P:Nat→Option Addr × Nat) (w:World) (h:Rls w w.heap.size A L P) (hn:L.length=n) (hn1:n≤1000000) (hcnt:cntB L≤1048576) (hPn:∀ i,i < n→(P i).1=none→(L.getD i rl0).boxes.length=0):
  Calls Tryz.prog 19 #[.slice A n c] w (NewPost L w):=by
 obtain ⟨i0,hi,hz0,hz1,hz2⟩:=info_parts (show (Tryz.prog.info? 65).map (fun i=>(i.zero,i.size,i.bytes))=some (some (.agg #[.int .i64 0, .int .i64 0, .int .i64 0, .int .i64 0, .int .i64 0, .slice none 0 0, .int .i64 0]),7,72) by kernel_rfl)
 have hbx:∀ i,i < n→(L.getD i rl0).boxes.length≤1048576:=fun i hi=>by
  rw [← hn] at hi
  rw [getR_lt hi]
  exact Nat.le_trans (cnt_mem (List.getElem_mem hi)) hcnt
 have p1:=fun (Y:World) (hY:Below w.heap.size w Y)=>rulesRight_any n c A L P Y ((h.keep hY).more hY.size) hn (by omega) (fun i hi=>Nat.le_trans (hbx i hi) (by decide))
 by_cases h32:n≤32
 ·obtain ⟨d,hd⟩:∃ d,L.all rightR=d:=⟨_,rfl⟩
  rw [hd] at p1
  have P1:=Lib.hid p1
  cases d with
  | false=>
   have HF:=Lib.hid (show ∀ w',Below w.heap.size w w'→NewPost L w (.returned (.tuple #[.pointer none, .int .i64 1])) w' from fun w' hb=>⟨hb, .inr ⟨fun h=>absurd h.2 (by rw [hd];decide),1,by decide,rfl⟩⟩)
   generalize NewPost L w=Post at HF ⊢
   clear h hn hcnt hbx p1 hd hPn
   go_enter Tryz.func19,Tryz.ntmps19
   go_wp2_with (first
    | (go_at_call 55;with_reducible refine (P1.out _ ?_).mono ?_;(focus (exact q9l));rintro e w' ⟨rfl,hb⟩;obtain ⟨X1,rfl,hl1,hm1⟩:=later _ hb (Nat.le_refl _);clear hb;(try simp only [q9A,q9B,q9D] at hm1 hl1)))
   exact HF.out _ q9l
  | true=>
   have HF:=Lib.hid (show ∀ q b w',Below w.heap.size w w'→Tb w' w.heap.size q b 0 L→NewPost L w (.returned (.tuple #[.pointer (some ⟨q,0,none⟩), .int .i64 0])) w' from fun q b w' hb hT=>⟨hb, .inl ⟨by omega,hd,q,b,rfl,hT⟩⟩)
   have H:=Lib.hid h
   have HN:=Lib.hid hn
   have HB:=Lib.hid hbx
   have HA:=Lib.hid hPn
   generalize NewPost L w=Post at HF ⊢
   clear h hn hcnt hbx p1 hd hPn
   go_enter Tryz.func19,Tryz.ntmps19
   go_wp2_with (first
    | (go_at_call 55;with_reducible refine (P1.out _ ?_).mono ?_;(focus (exact q9l));rintro e w' ⟨rfl,hb⟩;obtain ⟨X1,rfl,hl1,hm1⟩:=later _ hb (Nat.le_refl _);clear hb;(try simp only [q9A,q9B,q9D] at hm1 hl1))
    | (refine wpList_make_full (o:=⟨some 17,_,_,_,_,_⟩) _ rfl _ _ 22 rfl X1.w.heap.size 65 i0 (.agg #[.int .i64 0, .int .i64 0, .int .i64 0, .int .i64 0, .int .i64 0, .slice none 0 0, .int .i64 0]) 7 Tryz.underlying22 hi hz0 hz1 .i64 .i64 n n n rfl rfl rfl rfl (by rw [hz2];omega) (by unfold maxLen;omega) (Nat.le_refl _) ?_;intro W hown hgrow;have hbW:Below X1.w.heap.size X1.w W:=(Below.refl _ _).grown hgrow (Nat.le_refl _) (fun k hk=>by cases hk);have HOW:=Lib.hid hown;have hgW:X1.w.heap.size < W.heap.size:=(hown.lt _ rfl).2;clear hown hgrow))
   have hb1:Below w.heap.size w W:=(show Below w.heap.size w X1.w from q9l).trans (hbW.mono hl1)
   go_loopw [20] (fun i wr=>∃ (k:Nat) (M:List RP) (Z:List Value),(k≤n∧Hid ((wr.ownsRow X1.w.heap.size 65 7 (.slice (some ⟨X1.w.heap.size,0,none⟩) n n) n (mV M ++ Z)∧M.length=k)∧M.map Prod.fst=L.take k∧Z.length=(n - k)*7∧∀ x ∈ M,Bxs wr wr.heap.size x.2.1 x.1.boxes∧(0 < x.1.boxes.length→∀ a,x.2.1=some a→X1.w.heap.size < a.block)∧x.1.boxes.length≤x.2.2∧x.2.2≤9223372036854775807))∧i = .int .i64 k∧Below X1.w.heap.size W wr) (fun i _=>n - (intOf i).toNat)
   case atStart=>exact ⟨0,[],_,⟨Nat.zero_le _,⟨HOW.out,rfl⟩,rfl,HOW.out.1,fun x hx=>by cases hx⟩,rfl,Below.refl _ _⟩
   case round=>
    obtain ⟨k,M,Z,⟨hk,hrel⟩,rfl,hbel⟩:=hrel
    obtain ⟨X,rfl⟩:∃ X:Later X1.w.heap.size W,wr=X.w:=⟨⟨wr,hbel⟩,rfl⟩
    have hXs:=hbel.size
    have hXs':X1.w.heap.size≤X.w.heap.size:=by omega
    have hbX:Below w.heap.size w X.w:=hb1.trans (hbel.mono hl1)
    clear hbel
    by_cases hlt:k < n
    ·have hkL:k < L.length:=by rw [HN.out];exact hlt
     have hRX:=H.out.keep hbX
     obtain ⟨bb,o,hA,hBb,d0,d1,d2,d3,d4,d5,d6⟩:=rls_at hRX hkL
     subst hA
     have hbx:=HB.out k hlt
     have hbs:=(hRX.bx k hkL).more hbX.size
     have hcap:=hRX.cap k hkL
     have hno:=HA.out k hlt
     have htk:=takeR_snoc hkL
     obtain ⟨A1,cc1,hP⟩:∃ A1 cc1,P k=(A1,cc1):=⟨_,_,rfl⟩
     rw [hP] at d5 hbs hcap hno
     obtain ⟨x,hx⟩:∃ x,L.getD k rl0=x:=⟨_,rfl⟩
     rw [hx] at d0 d1 d2 d3 d4 d5 d6 hbx hbs hcap hno htk
     obtain ⟨z,hz⟩:∃ z,x.boxes.length=z:=⟨_,rfl⟩
     rw [hz] at d5 hbx hcap hno
     have P2:=Lib.hid (fun (Y:World) (hY:Below X.w.heap.size X.w Y)=>cloneB_any z cc1 A1 x.boxes Y ((hbs.keep hY).more hY.size) hz hbx hno)
     obtain ⟨z0,z1,z2,z3,z4,z5,z6,R,hZ⟩:=seven (Z:=Z) (by have:=hrel.out.2.2.1;omega)
     have hown:=hrel.out.1.1
     have hml:=hrel.out.1.2
     have hlm:=mV_len M
     rw [hml] at hlm
     have e0:X.w.cell? ⟨X1.w.heap.size,k*7,none⟩=some z0:=by rw [hown.cellAt _ (by omega),List.getElem?_append_right (by omega),hlm,hZ];simp
     have e1:X.w.cell? ⟨X1.w.heap.size,k*7+1,none⟩=some z1:=by rw [hown.cellAt _ (by omega),List.getElem?_append_right (by omega),hlm,hZ];simp
     have e2:X.w.cell? ⟨X1.w.heap.size,k*7+2,none⟩=some z2:=by rw [hown.cellAt _ (by omega),List.getElem?_append_right (by omega),hlm,hZ];simp
     have e3:X.w.cell? ⟨X1.w.heap.size,k*7+3,none⟩=some z3:=by rw [hown.cellAt _ (by omega),List.getElem?_append_right (by omega),hlm,hZ];simp
     have e4:X.w.cell? ⟨X1.w.heap.size,k*7+4,none⟩=some z4:=by rw [hown.cellAt _ (by omega),List.getElem?_append_right (by omega),hlm,hZ];simp
     have e5:X.w.cell? ⟨X1.w.heap.size,k*7+5,none⟩=some z5:=by rw [hown.cellAt _ (by omega),List.getElem?_append_right (by omega),hlm,hZ];simp
     have e6:X.w.cell? ⟨X1.w.heap.size,k*7+6,none⟩=some z6:=by rw [hown.cellAt _ (by omega),List.getElem?_append_right (by omega),hlm,hZ];simp
     have f0:=hown.frozenAt (k*7)
     have f1:=hown.frozenAt (k*7+1)
     have f2:=hown.frozenAt (k*7+2)
     have f3:=hown.frozenAt (k*7+3)
     have f4:=hown.frozenAt (k*7+4)
     have f5:=hown.frozenAt (k*7+5)
     have f6:=hown.frozenAt (k*7+6)
     have HX:=Lib.hid (And.intro hz (And.intro htk hZ))
     have hbbw:bb < w.heap.size:=hBb
     clear hown hml hlm hZ hx hz hbs hP hRX htk hno hcap hBb
     go_wp2_with fail
     go_at_call 56
     refine (P2.out _ q9l).mono ?_
     rintro e w' ⟨C,ccx,rfl,hcaps,hBx,hlo,hb⟩
     obtain ⟨X2,rfl,hl2,hm2⟩:=later _ hb (Nat.le_refl _)
     clear hb
     simp only [World.size_alloc] at hl2 hm2
     have HC:=Lib.hid (And.intro hcaps (And.intro hBx hlo))
     clear hcaps hBx hlo
     go_wp2_with fail
     go_roundw
     case rel=>
      have hx2:Below X.w.heap.size X.w X2.w:=q9l
      have own3:=own_setO (own_keep hrel.out.1.1 hx2) (p:=⟨X.w.heap.size,5,none⟩) (fun kk hkk=>by injection hkk with hkk;have hkk':X1.w.heap.size=kk:=hkk;show X.w.heap.size≠kk;omega) (.slice C z ccx)
      have own4:=own_rule own3 hrel.out.1.2 HX.out.2.2 (x,(C,ccx))
      simp only [HX.out.1] at own4
      have hst2:∀ j,j≠X1.w.heap.size→j≠X.w.heap.size→∀ v0 v1 v2 v3 v4 v5 v6,((((((((X2.w.setCell ⟨X.w.heap.size,5,none⟩ (.slice C z ccx)).setCell ⟨X1.w.heap.size,k*7,none⟩ v0).setCell ⟨X1.w.heap.size,k*7+1,none⟩ v1).setCell ⟨X1.w.heap.size,k*7+2,none⟩ v2).setCell ⟨X1.w.heap.size,k*7+3,none⟩ v3).setCell ⟨X1.w.heap.size,k*7+4,none⟩ v4).setCell ⟨X1.w.heap.size,k*7+5,none⟩ v5).setCell ⟨X1.w.heap.size,k*7+6,none⟩ v6).heap[j]? = X2.w.heap[j]? := fun j h1 h2 v0 v1 v2 v3 v4 v5 v6=>(heap_set7 h1 v0 v1 v2 v3 v4 v5 v6).trans (Below.heap_setCell _ _ _ j h2)
      have hRl:=hrel.out.2.2.1
      have hZl:R.length=(n - (k+1))*7:=by rw [HX.out.2.2] at hRl;simp at hRl;omega
      refine ⟨k+1,M ++ [(x,(C,ccx))],R,⟨hlt,⟨own4,by rw [List.length_append,hrel.out.1.2];rfl⟩,?_,hZl,?_⟩,by go_num,?_⟩
      ·rw [List.map_append,hrel.out.2.1,HX.out.2.1];rfl
      ·intro y hy
       rcases List.mem_append.1 hy with hy|hy
       ·obtain ⟨q1,q2,q3,q4⟩:=hrel.out.2.2.2 y hy
        refine ⟨(q1.agree (lo:=X1.w.heap.size+1) q2 (fun j h1 h2=>(hst2 j (by omega) (by omega) _ _ _ _ _ _ _).trans (hx2.block j h2))).more (by simp only [World.size_setCell];omega),q2,q3,q4⟩
       ·obtain rfl:=List.mem_singleton.1 hy
        have hlo:=HC.out.2.2
        refine ⟨(HC.out.2.1.agree (lo:=X.w.heap.size+1) (fun h0 a ha=>?_) (fun j h1 h2=>hst2 j (by omega) (by omega) _ _ _ _ _ _ _)).more (by simp only [World.size_setCell];omega),fun h0 a ha=>?_,by show x.boxes.length≤ccx;rw [HX.out.1];exact HC.out.1.1,HC.out.1.2⟩
        ·have:=hlo (by rw [← HX.out.1];exact h0) a ha
         simp only [World.size_alloc] at this
         exact this
        ·have:=hlo (by rw [← HX.out.1];exact h0) a ha
         simp only [World.size_alloc] at this
         omega
      ·exact (X.is.trans ((hx2.mono hXs').setCell (by show X1.w.heap.size≤X.w.heap.size;omega) _)).trans (below_set7 _ _ _ _ _ _ _)
     case measure=>simp [intOf];omega
    ·obtain rfl:k=n:=by omega
     have hZ0:Z=[]:=List.eq_nil_of_length_eq_zero (by have:=hrel.out.2.2.1;omega)
     have hML:M.map Prod.fst=L:=by rw [hrel.out.2.1,← HN.out,List.take_length]
     have hown:=hrel.out.1.1
     rw [hZ0,List.append_nil] at hown
     have hrls:=rls_own hown hrel.out.1.2 (Nat.le_refl _) (fun x hx=>(hrel.out.2.2.2 x hx).1) (fun x hx=>(hrel.out.2.2.2 x hx).2.2)
     rw [hML] at hrls
     have hlo:RlsLo w.heap.size (some ⟨X1.w.heap.size,0,none⟩) L (fun i=>(M.getD i rp0).2):=by
      refine ⟨fun _ a ha=>by injection ha with ha;subst ha;exact hl1,fun i hi h0 a ha=>?_⟩
      rw [← hML,List.length_map] at hi
      have hm:M.getD i rp0 ∈ M:=by
       rw [show M.getD i rp0=M[i] by simp [List.getD,List.getElem?_eq_getElem hi]]
       exact List.getElem_mem _
      have he:(M.getD i rp0).1=L.getD i rl0:=by
       rw [← hML]
       simp [List.getD,List.getElem?_eq_getElem hi]
      have:=(hrel.out.2.2.2 _ hm).2.1 (by rw [he];exact h0) a ha
      omega
     have HR:=Lib.hid (And.intro hrls hlo)
     clear hrls hlo hown hML hZ0
     have hsX:=hbX.size
     have HE:=Lib.hid (fun (w':World) (hb:Below X.w.heap.size X.w w') (c0:w'.cell? ⟨X.w.heap.size+1,0,none⟩=some (.slice (some ⟨X1.w.heap.size,0,none⟩) k k)) (c1:w'.cell? ⟨X.w.heap.size+1,1,none⟩=some (.map (some X.w.heap.size))) (hs:X.w.heap.size+2≤w'.heap.size) (hm:M3 w' X.w.heap.size 0 (fun _ _ _=>none))=>
      HF.out (X.w.heap.size+1) X.w.heap.size w' (hbX.trans (hb.mono hsX)) ⟨by omega,by omega,by omega,by omega,fun x e=>(by cases e),some ⟨X1.w.heap.size,0,none⟩,k,_,_,X.w.heap.size,by rw [HN.out];exact c0,c1,⟨Nat.le_refl _,HR.out.1.keep hb,HR.out.2⟩,hm,fun r t l _ v hv=>by cases hv⟩)
     have hm0:=m3_made X.w
     have hmm:=@run_makeMap Tryz.prog
     go_wp2_with fail
     exact HE.out _ q9l (by go_simp) (by go_simp) (by simp) (hm0.same (by
      have h9:Below (X.w.alloc (.map #[] 0)).heap.size (X.w.alloc (.map #[] 0)) ((X.w.alloc (.map #[] 0)).alloc (.cells #[.slice (some ⟨X1.w.heap.size,0,none⟩) k k, .map (some X.w.heap.size)] 120)):=(Below.refl _ _).alloc (Nat.le_refl _) _
      exact h9.block _ (by simp)))
 ·have HF:=Lib.hid (show ∀ w',Below w.heap.size w w'→NewPost L w (.returned (.tuple #[.pointer none, .int .i64 2])) w' from fun w' hb=>⟨hb, .inr ⟨fun h=>by have:=h.1;omega,2,by decide,rfl⟩⟩)
  generalize NewPost L w=Post at HF ⊢
  clear h hn hcnt hbx p1 hPn
  go_enter Tryz.func19,Tryz.ntmps19
  go_wp2
  exact HF.out _ q9l
theorem cov_zooms {l:List Rl} {PL:List Pa} (h:CovAll l PL) (z:Int):z ∈ PL.map Pa.zoom↔z≠0∧∃ x y,zoomF l x y=z:=by
 constructor
 ·intro hz
  obtain ⟨p,hp,rfl⟩:=List.mem_map.1 hz
  obtain ⟨q1,q2,q3,q4⟩:=h.1.1 p hp
  exact ⟨q3,p.bx.a,p.bx.b,q4 _ _ (Int.le_refl _) q1 (Int.le_refl _) q2⟩
 ·rintro ⟨hz,x,y,rfl⟩
  obtain ⟨p,hp,h1,h2,h3,h4⟩:=h.1.2 x y hz
  exact List.mem_map.2 ⟨p,hp,((h.1.1 p hp).2.2.2 x y h1 h2 h3 h4).symm⟩
def LevL (L:List Rl) (r t:Int) (j:Nat) (Z:List Int):Prop:=∀ z,z ∈ Z↔z≠0∧∃ l:Nat,l < j∧∃ x y,zoomF (mineR L r t l) x y=z
theorem lev_zero (L:List Rl) (r t:Int):LevL L r t 0 []:=fun z=>⟨fun h=>(by cases h),fun ⟨_,l,h,_⟩=>absurd h (Nat.not_lt_zero l)⟩
theorem lev_step {L:List Rl} {r t:Int} {j:Nat} {Z:List Int} {PL:List Pa} (h:LevL L r t j Z) (hc:CovAll (mineR L r t j) PL):LevL L r t (j+1) (Z ++ PL.map Pa.zoom):=fun z=>by
 rw [List.mem_append,h z,cov_zooms hc z]
 constructor
 ·rintro (⟨hz,l,hl,hx⟩|⟨hz,hx⟩)
  ·exact ⟨hz,l,by omega,hx⟩
  ·exact ⟨hz,j,by omega,hx⟩
 ·rintro ⟨hz,l,hl,hx⟩
  rcases Nat.lt_or_eq_of_le (Nat.le_of_lt_succ hl) with h9|rfl
  ·exact .inl ⟨hz,l,h9,hx⟩
  ·exact .inr ⟨hz,hx⟩
def gOf (C:Option Addr):Option Nat:=C.map Addr.block
def gP (C:Option Addr):Nat→Prop:=fun k=>gOf C=some k
theorem gOf_own {C:Option Addr} {n c:Nat}:(Value.slice C n c).ownBlock=gOf C:=by cases C <;> rfl
theorem zooms_snoc {L:List Pa} {i:Nat} (h:i < L.length):(L.take (i+1)).map Pa.zoom=(L.take i).map Pa.zoom ++ [(L.getD i pa0).zoom]:=by
 rw [List.take_succ_eq_append_getElem h,List.map_append,getP_lt h]
 rfl
theorem cells_one_new (w:World) (v:Value) (t:TypeId):∀ j u,([v]:List Value)[j]? = some u→(w.alloc (.cells #[v] t)).cell? ((⟨w.heap.size,0,none⟩:Addr).add j)=some u:=by
 intro j u hj
 match j,hj with
 | 0,hj=>simp at hj;subst hj;simp [Addr.add]
theorem grown_own {w w1 w2:World} {x g:Option Nat} (h:w.grownBy w1 x) (h':w1.grownBy w2 g) (hg:∀ y,g=some y→w.heap.size≤y):w.grownBy w2 x:=
 ⟨h'.os.trans h.os,h'.tape.trans h.tape,h'.output.trans h.output,Nat.le_trans h.size h'.size,fun k hk hx=>(h'.block k (Nat.lt_of_lt_of_le hk h.size) (fun e=>by have:=hg k e.symm;omega)).trans (h.block k hk hx)⟩
def gU (G:Nat→Prop) (C:Option Addr):Nat→Prop:=fun x=>G x∨gP C x
def LevPost (G:Nat→Prop) (lo q b k:Nat) (L:List Rl) (r t:Int) (w:World) (e:Ending) (w':World):Prop:=
 (∃ C cc xs,e = .returned (.slice C (xs:List Int).length cc)∧Ints w' w'.heap.size C xs∧(0 < xs.length→∀ a,C=some a→w.heap.size≤a.block)∧xs.Pairwise (· < ·)∧LevL L r t 8 xs)∧Tb w' lo q b (k+8) L G∧w.grownBy w' (some b)
set_option maxHeartbeats 16000000 in
theorem levels_any (G:Nat→Prop) (lo q b k:Nat) (L:List Rl) (r t:Int) (w:World) (h:Tb w lo q b k L G) (hgw:∀ x,G x→x < w.heap.size) (hk:k+8 < 1000000) (hr:0≤r∧r≤7) (ht:0≤t∧t≤7) (hcnt:cntB L≤1048576) (hn1:L.length≤1000000) (hpb:patsB L≤100000000000000):
  Calls Tryz.prog 82 #[.pointer (some ⟨q,0,none⟩), .int .i64 r, .int .i64 t] w (LevPost G lo q b k L r t w):=by
 have HGW:=Lib.hid hgw
 clear hgw
 obtain ⟨i0,hi,hz0,hz1,hz2⟩:=info_parts (show (Tryz.prog.info? 3).map (fun i=>(i.zero,i.size,i.bytes))=some (some (.int .i64 0),1,8) by kernel_rfl)
 have H:=Lib.hid h
 have hc1:w.cell? ⟨q,1,none⟩=some (.map (some b)):=by obtain ⟨_,_,_,_,_,A,c,P,S,B,c0,c1,_⟩:=h;exact c1
 have hql:=h.lt
 have hbl:b < w.heap.size:=by obtain ⟨_,_,_,_,_,A,c,P,S,B,c0,c1,_,hm,_⟩:=h;exact hm.lt
 have hqb:=h.ne
 have hnum:∀ l:Nat,l < 8→numsB r t l=true:=fun l hl=>by
  unfold numsB smallB
  simp
  omega
 have P1:=Lib.hid (fun (Y:World) (hY:Below w.heap.size w Y)=>made_any q b Y ((hY.cell (p:=⟨q,1,none⟩) hql).trans hc1))
 have p2:=fun (Y:World)=>gright_any r t 0 Y
 rw [show numsB r t 0=true from hnum 0 (by decide)] at p2
 have P2:=Lib.hid p2
 have P3:=Lib.hid (fun (C:Option Addr) (j:Nat) (hj:j < 8) (Y:World) (hT:Tb Y lo q b (k+j) L (gU G C)) (hg:∀ x,gU G C x→x < Y.heap.size)=>patches_any (gU G C) lo q b (k+j) L r t j Y hT hg (by omega) (hnum j hj) hcnt hn1)
 have HPB:=Lib.hid (fun (l:Int)=>Nat.le_trans (patsB_mono (fun x=>forR x r t l) L) hpb)
 clear p2 hnum h hcnt hn1 hc1 hpb
 go_enter Tryz.func82,Tryz.ntmps82
 go_wp2_with (first
  | (go_at_call 69;refine (P1.out _ q9l).mono ?_;rintro e w' ⟨rfl,hb⟩;obtain ⟨X1,rfl,hl1,hm1⟩:=later _ hb (Nat.le_refl _);clear hb;(try simp only [q9A,q9B,q9D] at hm1 hl1))
  | (go_at_call 70;refine (P2.out _).mono ?_;rintro e w' ⟨rfl,hb⟩;obtain ⟨X2,rfl,hl2,hm2⟩:=later _ hb (Nat.le_refl _);clear hb;(try simp only [q9A,q9B,q9D] at hm2 hl2)))
 have hb2:Below w.heap.size w X2.w:=q9l
 have hs2:=hb2.size
 have HT2:=Lib.hid (H.out.keep hb2)
 go_loopw [7,20] (fun al i wr=>∃ (j:Nat) (C:Option Addr) (cc m:Nat) (Z:List Int),((j≤8∧m≤j*5000000000)∧Hid ((wr.ownsRow w.heap.size 3 1 (.slice C m cc) m (nC Z)∧Z.length=m)∧Tb wr lo q b (k+j) L (gU G C)∧LevL L r t j Z∧w.grownBy wr (some b)))∧al = .slice C m cc∧i = .int .i64 j∧w.heap.size≤wr.heap.size) (fun _ i _=>8 - (intOf i).toNat)
 case atStart=>exact ⟨0,none,0,0,[],⟨⟨Nat.zero_le _,Nat.zero_le _⟩,⟨World.ownsRow_nil _ _ _ _,rfl⟩,HT2.out.step (fun _ _ _ _=>rfl) (Nat.le_refl _) (fun x e=>e.elim .inl (fun e=>by cases e)),lev_zero L r t,grown_below hb2⟩,rfl,rfl,hs2⟩
 case round=>
  obtain ⟨j,C,cc,m,Z,⟨⟨hj,hmj⟩,hrel⟩,rfl,rfl,hsz⟩:=hrel
  by_cases hlt:j < 8
  ·have hlo9:=hrel.out.1.1.lt
   have P4:=Lib.hid (P3.out C j hlt wr hrel.out.2.1 (fun x hx=>hx.elim (fun h9=>Nat.lt_of_lt_of_le (HGW.out x h9) hsz) (fun hx=>(hlo9 x (gOf_own.trans hx)).2)))
   have HPj:=Lib.hid (HPB.out j)
   clear hlo9
   go_wp2_with fail
   go_at_call 71
   refine P4.out.mono ?_
   rintro e W ⟨⟨C9,cc9,PL,rfl,hE⟩,hT,hg⟩
   obtain ⟨u,hu⟩:∃ u,PL.length=u:=⟨_,rfl⟩
   have hu1:u≤5000000000:=by have h1:=hE.2.2.1.1;rw [hu] at h1;exact h1
   have hWs:=hg.size
   have hownW:W.ownsRow w.heap.size 3 1 (.slice C m cc) m (nC Z):=hrel.out.1.1.kept hg (.inr fun e=>by
    have:=(hrel.out.1.1.lt b e).1
    omega)
   have hgW:w.grownBy W (some b):=⟨hg.os.trans hrel.out.2.2.2.os,hg.tape.trans hrel.out.2.2.2.tape,hg.output.trans hrel.out.2.2.2.output,Nat.le_trans hsz hWs,fun x hx hne=>(hg.block x (Nat.lt_of_lt_of_le hx hsz) hne).trans (hrel.out.2.2.2.block x hx hne)⟩
   have HW:=Lib.hid (show W.ownsRow w.heap.size 3 1 (.slice C m cc) m (nC Z)∧Z.length=m∧Tb W lo q b (k+j+1) L (gU G C)∧EntAt W lo b (mineR L r t j) C9 PL (gU G C)∧LevL L r t j Z∧w.grownBy W (some b)∧PL.length=u from ⟨hownW,hrel.out.1.2,hT,hE,hrel.out.2.2.1,hgW,hu⟩)
   have hsW:w.heap.size≤W.heap.size:=Nat.le_trans hsz hWs
   rw [hu]
   clear hE hT hg hownW hgW hu hrel P4
   go_wp2_with fail
   go_loopw [7,29] (fun al i wr=>∃ (i9:Nat) (C':Option Addr) (cc' m':Nat),((i9≤u∧m'=m+i9)∧Hid (wr.ownsRow w.heap.size 3 1 (.slice C' m' cc') m' (nC (Z ++ (PL.take i9).map Pa.zoom))∧Tb wr lo q b (k+j+1) L (gU G C')∧EntAt wr lo b (mineR L r t j) C9 PL (gU G C')))∧al = .slice C' m' cc'∧i = .int .i64 i9∧Below w.heap.size W wr) (fun _ i _=>u - (intOf i).toNat)
   case atStart=>exact ⟨0,C,cc,m,⟨⟨Nat.zero_le _,rfl⟩,by simpa using HW.out.1,HW.out.2.2.1,HW.out.2.2.2.1⟩,rfl,rfl,Below.refl _ _⟩
   case round=>
    obtain ⟨i9,C',cc',m',⟨⟨hi9,hm'⟩,hrel⟩,rfl,rfl,hbel⟩:=hrel
    obtain ⟨X,rfl⟩:∃ X:Later w.heap.size W,wr=X.w:=⟨⟨wr,hbel⟩,rfl⟩
    have hXs:=hbel.size
    have hm9:m'≤45000000000:=by omega
    have HM:=Lib.hid hm'
    clear hm'
    by_cases hil:i9 < u
    ·have hiL:i9 < PL.length:=by rw [HW.out.2.2.2.2.2.2];exact hil
     obtain ⟨bb,o,hA,hB,d0,d1,d2,d3,d4⟩:=pats_at hrel.out.2.2.1 hiL
     subst hA
     have hsn:=zooms_snoc hiL
     obtain ⟨p,hp⟩:∃ p,PL.getD i9 pa0=p:=⟨_,rfl⟩
     rw [hp] at d0 d1 d2 d3 d4 hsn
     have HS:=Lib.hid hsn
     clear hsn hp hbel
     go_wp2_with (at_builtin;refine wpList_append_own_at _ rfl _ _ 112 rfl w.heap.size 3 i0 (.int .i64 0) 1 8 Tryz.underlying112 hi hz0 hz1 hz2 rfl (by decide) (.slice C' m' cc') m' _ (by rfl) ((hrel.out.1.alloc _).alloc _) ⟨X.w.heap.size+1,0,none⟩ 1 1 [.int .i64 p.zoom] (by rfl) (by rfl) (by first|exact cells_one_new _ _ _|(intro j u hj;match j,hj with|0,hj=>(simp at hj;subst hj;simp [Addr.add]))) (by intro u hu;simp at hu;subst hu;rfl) (by unfold maxLen;omega) (by omega) (by simp;omega) ?_)
     intro v3 w3 hown3 hgrow3 _ hat3
     obtain ⟨A3,k3,rfl⟩:=own_formN hown3
     have hba:Below X.w.heap.size X.w ((X.w.alloc (.cells #[.int .i64 p.bx.a, .int .i64 p.bx.b, .int .i64 p.bx.c, .int .i64 p.bx.d, .int .i64 p.zoom] 144)).alloc (.cells #[.int .i64 p.zoom] 3)):=((Below.refl _ _).alloc (Nat.le_refl _) _).alloc (by simp) _
     have hg':∀ x,gU G A3 x→gU G C' x∨((X.w.alloc (.cells #[.int .i64 p.bx.a, .int .i64 p.bx.b, .int .i64 p.bx.c, .int .i64 p.bx.d, .int .i64 p.zoom] 144)).alloc (.cells #[.int .i64 p.zoom] 3)).heap.size≤x:=by
      rw [gOf_own,gOf_own] at hat3
      rcases hat3 with e|e
      ·exact fun x hx=>hx.elim (fun h9 => .inl (.inl h9)) (fun hx => .inl (.inr (e.symm.trans hx)))
      ·exact fun x hx=>hx.elim (fun h9 => .inl (.inl h9)) (fun hx => .inr <| by unfold gP at hx;rw [e] at hx;injection hx with hx;simp only [World.size_alloc] at hx ⊢;omega)
     have hst:∀ k,some k≠gOf C'→k < ((X.w.alloc (.cells #[.int .i64 p.bx.a, .int .i64 p.bx.b, .int .i64 p.bx.c, .int .i64 p.bx.d, .int .i64 p.zoom] 144)).alloc (.cells #[.int .i64 p.zoom] 3)).heap.size→w3.heap[k]? = ((X.w.alloc (.cells #[.int .i64 p.bx.a, .int .i64 p.bx.b, .int .i64 p.bx.c, .int .i64 p.bx.d, .int .i64 p.zoom] 144)).alloc (.cells #[.int .i64 p.zoom] 3)).heap[k]? := fun k hne hk=>hgrow3.block k hk (by rw [gOf_own];exact hne)
     have HE:=Lib.hid (show w3.ownsRow w.heap.size 3 1 (.slice A3 (m'+1) k3) (m'+1) (nC (Z ++ (PL.take (i9+1)).map Pa.zoom))∧Tb w3 lo q b (k+j+1) L (gU G A3)∧EntAt w3 lo b (mineR L r t j) (some ⟨bb,o,none⟩) PL (gU G A3) from ⟨by
       rw [HS.out,← List.append_assoc]
       unfold nC at hown3 ⊢
       rw [← List.map_take] at hown3
       rw [List.map_append,List.map_append]
       rw [List.map_append] at hown3
       exact hown3,(hrel.out.2.1.keep hba).step (fun k _ hne hk=>hst k (fun e=>hne (.inr e.symm)) hk) hgrow3.size hg',(hrel.out.2.2.step (fun k _ _ _ hk=>hba.block k hk) hba.size (fun _ h => .inl h)).step (fun k _ _ hne hk=>hst k (fun e=>hne (.inr e.symm)) hk) hgrow3.size hg'⟩)
     have hb3:Below w.heap.size W w3:=(X.is.trans (hba.mono (Nat.le_trans hsW hXs))).trans ⟨hgrow3.os,hgrow3.tape,hgrow3.output,hgrow3.size,fun k hk=>hgrow3.block k (by have:=hba.size;omega) (fun e=>by have:=(hrel.out.1.lt k e.symm).1;omega)⟩
     clear hown3 hgrow3 hat3 hba hg' hst
     go_wp2_with fail
     go_roundw
     case rel=>exact ⟨i9+1,A3,k3,m'+1,⟨⟨by omega,by have:=HM.out;omega⟩,HE.out⟩,rfl,by go_num,hb3⟩
     case measure=>simp [intOf];omega
    ·obtain rfl:i9=u:=by omega
     have hlv:=lev_step HW.out.2.2.2.2.1 HW.out.2.2.2.1.2.1
     have htk:PL.take i9=PL:=by rw [← HW.out.2.2.2.2.2.2,List.take_length]
     have HE:=Lib.hid (show (X.w.ownsRow w.heap.size 3 1 (.slice C' m' cc') m' (nC (Z ++ PL.map Pa.zoom))∧(Z ++ PL.map Pa.zoom).length=m')∧Tb X.w lo q b (k+(j+1)) L (gU G C')∧LevL L r t (j+1) (Z ++ PL.map Pa.zoom)∧w.grownBy X.w (some b) from ⟨⟨by have h9:=hrel.out.1;rw [htk] at h9;exact h9,by rw [List.length_append,List.length_map,HW.out.2.2.2.2.2.2,HW.out.2.1];exact HM.out.symm⟩,hrel.out.2.1,hlv,⟨hbel.os.trans HW.out.2.2.2.2.2.1.os,hbel.tape.trans HW.out.2.2.2.2.2.1.tape,hbel.output.trans HW.out.2.2.2.2.2.1.output,Nat.le_trans hsW hXs,fun x hx hne=>(hbel.block x hx).trans (HW.out.2.2.2.2.2.1.block x hx hne)⟩⟩)
     clear hlv htk hbel hrel
     go_wp2_with fail
     go_roundw
     case rel=>exact ⟨j+1,C',cc',m',_,⟨⟨by omega,by have:=HM.out;omega⟩,HE.out⟩,rfl,by go_num,Nat.le_trans hsW hXs⟩
     case measure=>simp [intOf];omega
  ·obtain rfl:j=8:=by omega
   have hsz9:m≤40000000000:=by omega
   go_wp2_with fail
   have HO:=Lib.hid hrel.out.1.1
   refine (sort_own HO.out (by omega)).mono ?_
   rintro e w1 ⟨rfl,hown1,hgrow1⟩
   rw [gOf_own] at hgrow1
   have hgC:∀ y,gOf C=some y→w.heap.size≤y:=fun y hy=>(HO.out.lt y (gOf_own.trans hy)).1
   have hT1:=hrel.out.2.1.step (fun k _ hne hk=>hgrow1.block k hk (fun e=>hne (.inr e.symm))) hgrow1.size (fun _ h => .inl h)
   have hg1:=grown_own hrel.out.2.2.2 hgrow1 hgC
   have HO1:=Lib.hid (And.intro hown1 (And.intro hT1 hg1))
   clear hown1 hgrow1 hT1 hg1
   go_wp2_with fail
   refine (compact_own HO1.out.1 (by omega)).mono ?_
   rintro e w2 ⟨rfl,hown2,hgrow2⟩
   rw [gOf_own] at hgrow2
   have HE:=Lib.hid (show LevPost G lo q b k L r t w (.returned (.slice C (edgesL Z).length cc)) w2 from ⟨⟨C,cc,edgesL Z,rfl,ints_own hown2,own_new hown2,edges_lt Z,fun z=>(edges_mem).trans (hrel.out.2.2.1 z)⟩,HO1.out.2.1.step (fun k _ hne hk=>hgrow2.block k hk (fun e=>hne (.inr e.symm))) hgrow2.size (fun _ h => .inl (.inl h)),grown_own HO1.out.2.2 hgrow2 hgC⟩)
   clear hown2 hgrow2
   go_wp2
   go_ret
   exact HE.out
end Go.Proofs.YthlijfligikciaaGreat
namespace Go.Proofs.YthlijfligikciaaGreat
theorem sq_zero {u:Int}:u*u=0↔u=0:=by
 constructor
 ·intro h;rcases Int.mul_eq_zero.1 h with h|h <;> exact h
 ·rintro rfl;rfl
theorem sq_nonneg (u:Int):0≤u*u:=by
 rcases Int.le_total 0 u with h|h
 ·exact Int.mul_nonneg h h
 ·exact Int.mul_nonneg_of_nonpos_of_nonpos h h
theorem dist_zero {a b c d x y:Int} (h:rightB a b c d=true) (hf:fitsB x y=true):(distI a b c d x y == 0)=hasB a b c d x y:=by
 have g:=right_iff.1 h
 have s1:=sq_nonneg (gapI x a c)
 have s2:=sq_nonneg (gapI y b d)
 rw [Bool.eq_iff_iff,beq_iff_eq,has_iff,h]
 unfold distI
 rw [h,hf,Bool.and_self,if_pos rfl]
 have e:gapI x a c*gapI x a c+gapI y b d*gapI y b d=0↔gapI x a c*gapI x a c=0∧gapI y b d*gapI y b d=0:=by omega
 rw [e,sq_zero,sq_zero]
 simp only [true_and]
 unfold gapI
 constructor
 ·rintro ⟨h1,h2⟩
  split at h1 <;> (try split at h1) <;> split at h2 <;> (try split at h2) <;> omega
 ·intro h
  refine ⟨?_,?_⟩
  ·rw [if_neg (by omega),if_neg (by omega)]
  ·rw [if_neg (by omega),if_neg (by omega)]
end Go.Proofs.YthlijfligikciaaGreat
namespace Go.Proofs.YthlijfligikciaaGreat
set_option linter.unusedSimpArgs false
set_option linter.unusedVariables false
def pw (l:Int):Int:=(2:Int) ^ l.toNat
def sd (l:Int):Int:=(2:Int) ^ (16 - l).toNat
def lvlB (l:Int):Bool:=decide (0≤l∧l≤16)
def crightB (l x y:Int):Bool:=decide (0≤l∧l≤16∧0≤x∧0≤y∧x < pw l∧y < pw l)
theorem pw_pos (l:Int):0 < pw l:=Int.pow_pos (by omega)
theorem sd_pos (l:Int):0 < sd l:=Int.pow_pos (by omega)
theorem pw_sd {l:Int} (h0:0≤l) (h1:l≤16):pw l*sd l=65536:=by
 unfold pw sd
 rw [← Int.pow_add,show l.toNat+(16 - l).toNat=16 by omega];rfl
theorem lvl_iff {l:Int}:lvlB l=true↔0≤l∧l≤16:=by simp [lvlB]
theorem cright_iff {l x y:Int}:crightB l x y=true↔0≤l∧l≤16∧0≤x∧0≤y∧x < pw l∧y < pw l:=by simp [crightB]
theorem pw_le {l:Int} (h1:l≤16):pw l≤65536:=by
 unfold pw
 obtain ⟨n,hn⟩:∃ n,l.toNat=n:=⟨_,rfl⟩
 have hn':n≤16:=by omega
 rw [hn]
 have h2:=Nat.pow_le_pow_right (n:=2) (by omega) hn'
 have h3:((2:Int) ^ n)=((2 ^ n:Nat):Int):=by push_cast;rfl
 have h4:(2:Nat) ^ 16=65536:=by decide
 omega
theorem grid_lt {l x:Int} (h0:0≤l) (h1:l≤16) (x0:0≤x) (x1:x < pw l):0≤x*sd l∧x*sd l+sd l≤65536:=by
 have h:=pw_sd h0 h1
 have hs:=sd_pos l
 refine ⟨Int.mul_nonneg x0 (by omega),?_⟩
 have:=Int.mul_le_mul_of_nonneg_right (show x+1≤pw l by omega) (show 0≤sd l by omega)
 rw [Int.add_mul] at this
 omega
theorem div_iff {n s x:Int} (hs:0 < s):(x*s≤n∧n≤x*s+s - 1)↔n / s=x:=by
 constructor
 ·rintro ⟨h1,h2⟩
  have e:=Int.emod_add_mul_ediv n s
  rw [Int.le_antisymm_iff]
  constructor
  ·have:n / s < x+1:=Int.ediv_lt_of_lt_mul hs (by rw [Int.add_mul];omega)
   omega
  ·exact Int.le_ediv_of_mul_le hs h1
 ·rintro rfl
  have h1:=Int.emod_nonneg n (show s≠0 by omega)
  have h2:=Int.emod_lt_of_pos n hs
  have e:=Int.emod_add_mul_ediv n s
  rw [Int.mul_comm] at e
  omega
theorem div_grid {l n:Int} (h0:0≤l) (h1:l≤16) (n0:0≤n) (n1:n≤65535):0≤n / sd l∧n / sd l < pw l:=by
 refine ⟨Int.ediv_nonneg n0 (by have:=sd_pos l;omega),Int.ediv_lt_of_lt_mul (sd_pos l) ?_⟩
 rw [pw_sd h0 h1];omega
end Go.Proofs.YthlijfligikciaaGreat
