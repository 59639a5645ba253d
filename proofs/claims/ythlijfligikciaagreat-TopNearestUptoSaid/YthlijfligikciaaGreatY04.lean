/- A part of one proof: TpF Early. No condition. -/
import Derived.Test.YthlijfligikciaaGreatY03
import Derived.Maps.AppendAt
import Derived.Test.YthlijfligikciaaGreatY01
import Derived.OrdersHeld
import Derived.Deep.RegionHeld3
import Derived.Deep.AppendLies
namespace Go.Proofs.YthlijfligikciaaGreat
open Go.RowKit
set_option linter.unusedSimpArgs false
set_option linter.unusedVariables false
set_option maxRecDepth 2000
def ptsB (f1 f2:Bx→Int) (l:List Bx):List Int:=l.flatMap fun b=>[f1 b,f2 b+1]
def ptsL (f1 f2:Bx→Int) (L:List Rl):List Int:=L.flatMap fun r=>ptsB f1 f2 r.boxes
def cntB (L:List Rl):Nat:=(L.map fun r=>r.boxes.length).sum
theorem ptsB_len (f1 f2:Bx→Int) (l:List Bx):(ptsB f1 f2 l).length=2*l.length:=by
 induction l with
 | nil=>rfl
 | cons b l ih=>
  unfold ptsB at ih ⊢
  rw [List.flatMap_cons,List.length_append,ih]
  simp
  omega
theorem ptsL_len (f1 f2:Bx→Int) (L:List Rl):(ptsL f1 f2 L).length=2*cntB L:=by
 induction L with
 | nil=>rfl
 | cons r L ih=>
  unfold ptsL at ih ⊢
  rw [List.flatMap_cons,List.length_append,ih,ptsB_len]
  simp [cntB]
  omega
theorem cnt_app (L M:List Rl):cntB (L ++ M)=cntB L+cntB M:=by simp [cntB]
theorem cnt_take {L:List Rl} {k:Nat} (h:k < L.length):cntB (L.take k)+(L.getD k rl0).boxes.length≤cntB L:=by
 have h1:=List.take_append_drop k L
 have h2:cntB L=cntB (L.take k)+cntB (L.drop k):=by rw [← cnt_app,h1]
 have h3:L.drop k=L.getD k rl0 :: L.drop (k+1):=by
  rw [List.drop_eq_getElem_cons h]
  simp [List.getD,List.getElem?_eq_getElem h]
 rw [h3] at h2
 have h4:cntB (L.getD k rl0 :: L.drop (k+1))=(L.getD k rl0).boxes.length+cntB (L.drop (k+1)):=by simp [cntB]
 omega
theorem pts_snoc (f1 f2:Bx→Int) {L:List Rl} {k:Nat} (h:k < L.length):ptsL f1 f2 (L.take (k+1))=ptsL f1 f2 (L.take k) ++ ptsB f1 f2 (L.getD k rl0).boxes:=by
 rw [takeR_snoc h]
 simp [ptsL]
theorem takeX_snoc {L:List Bx} {i:Nat} (h:i < L.length):L.take (i+1)=L.take i ++ [L.getD i bx0]:=by
 rw [List.take_succ_eq_append_getElem h]
 simp [List.getD,List.getElem?_eq_getElem h]
theorem ptsB_snoc (f1 f2:Bx→Int) {L:List Bx} {k:Nat} (h:k < L.length):ptsB f1 f2 (L.take (k+1))=ptsB f1 f2 (L.take k) ++ [f1 (L.getD k bx0),f2 (L.getD k bx0)+1]:=by
 rw [takeX_snoc h]
 simp [ptsB]
theorem own_formN {w:World} {base n size:Nat} {e:TypeId} {v:Value} {xs:List Value} (h:w.ownsRow base e size v n xs):∃ A c,v = .slice A n c:=by
 rcases h.2 with ⟨rfl,rfl⟩|⟨g,cap,cur,rfl,_⟩
 ·exact ⟨_,_,rfl⟩
 ·exact ⟨_,_,rfl⟩
theorem cells_two_new (w:World) (a b:Int) (t:TypeId):∀ j u,([.int .i64 a, .int .i64 b]:List Value)[j]? = some u→(w.alloc (.cells #[.int .i64 a, .int .i64 b] t)).cell? ((⟨w.heap.size,0,none⟩:Addr).add j)=some u:=by
 intro j u hj
 match j,hj with
 | 0,hj|1,hj=>simp at hj;subst hj;simp [Addr.add]
theorem corner_a (b:Bx) (w:World):Calls Tryz.prog 141 #[.agg #[.int .i64 b.a, .int .i64 b.b, .int .i64 b.c, .int .i64 b.d]] w fun e w'=>e = .returned (.tuple #[.int .i64 b.a, .int .i64 b.c])∧Below w.heap.size w w':=by
 go_enter Tryz.func141,Tryz.ntmps141
 go_wp2_with fail
 (refine wp_region_later (w.heap.size+1) (by kernel_rfl) (by kernel_rfl) (by go_size) ?_;(repeat (go_big_quiet_step (fail)));refine wpQuiet_nil ?_;intro Xq hlq hmq)
 go_wp2
 go_ret2
 exact ⟨rfl,q9l⟩
theorem corner_b (b:Bx) (w:World):Calls Tryz.prog 142 #[.agg #[.int .i64 b.a, .int .i64 b.b, .int .i64 b.c, .int .i64 b.d]] w fun e w'=>e = .returned (.tuple #[.int .i64 b.b, .int .i64 b.d])∧Below w.heap.size w w':=by
 go_enter Tryz.func142,Tryz.ntmps142
 go_wp2_with fail
 (refine wp_region_later (w.heap.size+1) (by kernel_rfl) (by kernel_rfl) (by go_size) ?_;(repeat (go_big_quiet_step (fail)));refine wpQuiet_nil ?_;intro Xq hlq hmq)
 go_wp2
 go_ret2
 exact ⟨rfl,q9l⟩
set_option maxHeartbeats 16000000 in
theorem gedgesX_any (n c:Nat) (A:Option Addr) (L:List Rl) (P:Nat→Option Addr × Nat) (w:World) (h:Rls w w.heap.size A L P) (hn:L.length=n) (hcnt:cntB L≤1048576) (hn1:n≤1000000) (hr:∀ r ∈ L,∀ b ∈ r.boxes,0≤b.c∧b.c≤65535):
  Calls Tryz.prog 140 #[.slice A n c, .func (.func 141) #[] #[]] w fun e w'=>(∃ C cc,e = .returned (.slice C (edgesL (ptsL (fun b=>b.a) (fun b=>b.c) L)).length cc)∧w'.ownsRow w.heap.size 3 1 (.slice C (edgesL (ptsL (fun b=>b.a) (fun b=>b.c) L)).length cc) (edgesL (ptsL (fun b=>b.a) (fun b=>b.c) L)).length (nC (edgesL (ptsL (fun b=>b.a) (fun b=>b.c) L))))∧Below w.heap.size w w':=by
 obtain ⟨i0,hi,hz0,hz1,hz2⟩:=info_parts (show (Tryz.prog.info? 3).map (fun i=>(i.zero,i.size,i.bytes))=some (some (.int .i64 0),1,8) by kernel_rfl)
 have H:=Lib.hid h
 have HN:=Lib.hid hn
 have HR:=Lib.hid hr
 have HC:=Lib.hid hcnt
 have HPost:=Lib.hid (show ∀ (C:Option Addr) (cc:Nat) (M:List Int) (w':World),M=edgesL (ptsL (fun b=>b.a) (fun b=>b.c) L)→w'.ownsRow w.heap.size 3 1 (.slice C M.length cc) M.length (nC M)→Below w.heap.size w w'→(∃ C' cc',Ending.returned (.slice C M.length cc) = .returned (.slice C' (edgesL (ptsL (fun b=>b.a) (fun b=>b.c) L)).length cc')∧w'.ownsRow w.heap.size 3 1 (.slice C' (edgesL (ptsL (fun b=>b.a) (fun b=>b.c) L)).length cc') (edgesL (ptsL (fun b=>b.a) (fun b=>b.c) L)).length (nC (edgesL (ptsL (fun b=>b.a) (fun b=>b.c) L))))∧Below w.heap.size w w' from fun C cc M w' e h1 h2=>by subst e;exact ⟨⟨C,cc,rfl,h1⟩,h2⟩)
 clear h hn hr hcnt
 go_enter Tryz.func140,Tryz.ntmps140
 go_wp2
 go_loopw [5,14] (fun al i wr=>∃ (k:Nat) (C:Option Addr) (cc m:Nat),(k≤n∧m≤2097152∧Hid (wr.ownsRow w.heap.size 3 1 (.slice C m cc) m (nC (ptsL (fun b=>b.a) (fun b=>b.c) (L.take k)))))∧al = .slice C m cc∧i = .int .i64 k∧Below w.heap.size w wr∧w.heap.size≤wr.heap.size) (fun _ i _=>n - (intOf i).toNat)
 case atStart=>exact ⟨0,none,0,0,⟨Nat.zero_le _,by omega,World.ownsRow_nil _ _ _ _⟩,rfl,rfl,Below.refl _ _,Nat.le_refl _⟩
 case round=>
  obtain ⟨k,C,cc,m,⟨hk,hm,hown⟩,rfl,rfl,hbel,hsz⟩:=hrel
  obtain ⟨X,rfl⟩:∃ X:Later w.heap.size w,wr=X.w:=⟨⟨wr,hbel⟩,rfl⟩
  by_cases hlt:k < n
  ·have hkL:k < L.length:=by rw [HN.out];exact hlt
   obtain ⟨b,o,hA,hB,c0,c1,c2,c3,c4,c5,c6⟩:=rls_at H.out hkL
   subst hA
   have hbs:=H.out.bx k hkL
   have hct:=cnt_take hkL
   have hps:=pts_snoc (fun b=>b.a) (fun b=>b.c) hkL
   have hrx:=HR.out (L.getD k rl0) (by rw [getR_lt hkL];exact List.getElem_mem _)
   obtain ⟨A1,cc1,hP⟩:∃ A1 cc1,P k=(A1,cc1):=⟨_,_,rfl⟩
   rw [hP] at c5 hbs
   obtain ⟨q,hq⟩:∃ q,L.getD k rl0=q:=⟨_,rfl⟩
   rw [hq] at c0 c1 c2 c3 c4 c5 c6 hbs hct hps hrx
   obtain ⟨nb,hnb⟩:∃ m,q.boxes.length=m:=⟨_,rfl⟩
   rw [hnb] at c5 hct
   obtain ⟨Z,hZ⟩:∃ Z,ptsL (fun b=>b.a) (fun b=>b.c) (L.take k)=Z:=⟨_,rfl⟩
   have hZl:Z.length=2*cntB (L.take k):=by rw [← hZ,ptsL_len]
   rw [hZ] at hown hps
   have hZm:Z.length=m:=by have:=hown.out.1;simpa [nC] using this
   have HQ:=Lib.hid (show q.boxes.length=nb∧(∀ b ∈ q.boxes,0≤b.c∧b.c≤65535)∧Bxs w w.heap.size A1 q.boxes∧ptsL (fun b=>b.a) (fun b=>b.c) (L.take (k+1))=Z ++ ptsB (fun b=>b.a) (fun b=>b.c) q.boxes∧Z.length=m from ⟨hnb,hrx,hbs,hps,hZm⟩)
   have hmb:m+2*nb≤2097152:=by have:=HC.out;omega
   clear hbs hct hps hrx hP hq hnb hZl hZ hZm
   go_wp2
   go_loopw [5,21] (fun al i wr=>∃ (j:Nat) (C:Option Addr) (cc:Nat),(j≤nb∧Hid (wr.ownsRow w.heap.size 3 1 (.slice C (m+2*j) cc) (m+2*j) (nC (Z ++ ptsB (fun b=>b.a) (fun b=>b.c) (q.boxes.take j)))))∧al = .slice C (m+2*j) cc∧i = .int .i64 j∧Below w.heap.size w wr∧w.heap.size≤wr.heap.size) (fun _ i _=>nb - (intOf i).toNat)
   case atStart=>exact ⟨0,C,cc,⟨Nat.zero_le _,by rw [show ptsB (fun b=>b.a) (fun b=>b.c) (q.boxes.take 0)=[] from rfl,List.append_nil];exact own_keep hown.out q9l⟩,rfl,rfl,q9l,by go_size⟩
   case round=>
    obtain ⟨j,C,cc,⟨hj,hown⟩,rfl,rfl,hbel,hsz⟩:=hrel
    obtain ⟨X,rfl⟩:∃ X:Later w.heap.size w,wr=X.w:=⟨⟨wr,hbel⟩,rfl⟩
    by_cases hjl:j < nb
    ·have hjL:j < q.boxes.length:=by rw [HQ.out.1];exact hjl
     obtain ⟨b',o',hA',hB',d0,d1,d2,d3⟩:=bxs_at HQ.out.2.2.1 hjL
     subst hA'
     have hf2:=HQ.out.2.1 (q.boxes.getD j bx0) (by rw [getX_lt hjL];exact List.getElem_mem _)
     have hps:=ptsB_snoc (fun b=>b.a) (fun b=>b.c) hjL
     obtain ⟨z,hz⟩:∃ z,q.boxes.getD j bx0=z:=⟨_,rfl⟩
     rw [hz] at d0 d1 d2 d3 hf2 hps
     have HPS:=Lib.hid hps
     have P2:=Lib.hid (corner_a z)
     clear hz hps
     go_wp2_with (first
      | (go_at_call 141;refine (P2.out _).mono ?_;rintro e w' ⟨rfl,hb⟩;obtain ⟨X1,rfl,hl1,hm1⟩:=later _ hb (Nat.le_refl _);clear hb;(try simp only [q9A,q9B,q9D] at hm1 hl1))
      | (at_builtin;refine wpList_append_own_at _ rfl _ _ 112 rfl w.heap.size 3 i0 (.int .i64 0) 1 8 Tryz.underlying112 hi hz0 hz1 hz2 rfl (by decide) _ _ _ rfl ((own_keep hown.out (show Below X.w.heap.size X.w X1.w from q9l)).alloc _) ⟨X1.w.heap.size,0,none⟩ 2 2 [.int .i64 z.a, .int .i64 (z.c+1)] rfl rfl (cells_two_new _ _ _ _) (by intro u hu;simp at hu;rcases hu with rfl|rfl <;> rfl) (by unfold maxLen;omega) (by omega) (by go_size) ?_;intro v3 w3 hown3 hgrow3 _ _;obtain ⟨A3,k3,rfl⟩:=own_formN hown3;have hb3:Below w.heap.size w w3:=Below.grown (Below.alloc (show Below w.heap.size w X1.w from q9l) (by go_size) _) hgrow3 (by go_size) (fun k hk=>(hown.out.lt k hk).1);have HO3:=Lib.hid hown3;clear hown3 hgrow3))
     go_roundw
     case rel=>
      have h9:=HO3.out
      refine ⟨j+1,_,_,⟨by omega,?_⟩,rfl,by go_num,hb3,hb3.size⟩
      rw [HPS.out,← List.append_assoc]
      unfold nC at h9 ⊢
      rw [List.map_append]
      exact h9
     case measure=>simp [intOf];omega
    ·obtain rfl:j=nb:=by omega
     have h9:=hown.out
     have e9:q.boxes.take j=q.boxes:=by rw [← HQ.out.1,List.take_length]
     rw [e9,← HQ.out.2.2.2.1] at h9
     have HO:=Lib.hid h9
     have hl9:m+2*j≤2097152:=by omega
     clear h9 hown
     go_wp2
     go_roundw
     case rel=>exact ⟨k+1,C,cc,m+2*j,⟨by omega,hl9,HO.out⟩,rfl,by go_num,q9l,by go_size⟩
     case measure=>simp [intOf];omega
  ·obtain rfl:k=n:=by omega
   have h9:=hown.out
   rw [← HN.out,List.take_length] at h9
   obtain ⟨Z,hZ⟩:∃ Z,ptsL (fun b=>b.a) (fun b=>b.c) L=Z:=⟨_,rfl⟩
   rw [hZ] at h9
   have hZm:Z.length=m:=by have:=h9.1;simpa [nC] using this
   have HO:=Lib.hid h9
   have HZ:=Lib.hid (And.intro hZ hZm)
   clear h9 hown hZ hZm
   go_wp2_with fail
   refine (sort_own HO.out (by omega)).mono ?_
   rintro e w1 ⟨rfl,hown1,hgrow1⟩
   have hb1:Below w.heap.size w w1:=Below.grown X.is hgrow1 hsz (fun k hk=>(HO.out.lt k hk).1)
   have HO1:=Lib.hid hown1
   have hs1:=hgrow1.size
   obtain ⟨X1,rfl⟩:∃ Z:Later w.heap.size w,w1=Z.w:=⟨⟨w1,hb1⟩,rfl⟩
   clear hown1 hgrow1
   go_wp2_with fail
   refine (compact_own HO1.out (by omega)).mono ?_
   rintro e w2 ⟨rfl,hown2,hgrow2⟩
   have hb2:Below w.heap.size w w2:=Below.grown hb1 hgrow2 (by omega) (fun k hk=>(HO1.out.lt k hk).1)
   have HE:=Lib.hid (HPost.out C cc (Lib.compact (sortL Z)) w2 (by rw [HZ.out.1];rfl) hown2 hb2)
   clear hown2 hgrow2 hb2
   go_wp2
   go_ret
   exact HE.out
set_option maxHeartbeats 16000000 in
theorem gedgesY_any (n c:Nat) (A:Option Addr) (L:List Rl) (P:Nat→Option Addr × Nat) (w:World) (h:Rls w w.heap.size A L P) (hn:L.length=n) (hcnt:cntB L≤1048576) (hn1:n≤1000000) (hr:∀ r ∈ L,∀ b ∈ r.boxes,0≤b.d∧b.d≤65535):
  Calls Tryz.prog 140 #[.slice A n c, .func (.func 142) #[] #[]] w fun e w'=>(∃ C cc,e = .returned (.slice C (edgesL (ptsL (fun b=>b.b) (fun b=>b.d) L)).length cc)∧w'.ownsRow w.heap.size 3 1 (.slice C (edgesL (ptsL (fun b=>b.b) (fun b=>b.d) L)).length cc) (edgesL (ptsL (fun b=>b.b) (fun b=>b.d) L)).length (nC (edgesL (ptsL (fun b=>b.b) (fun b=>b.d) L))))∧Below w.heap.size w w':=by
 obtain ⟨i0,hi,hz0,hz1,hz2⟩:=info_parts (show (Tryz.prog.info? 3).map (fun i=>(i.zero,i.size,i.bytes))=some (some (.int .i64 0),1,8) by kernel_rfl)
 have H:=Lib.hid h
 have HN:=Lib.hid hn
 have HR:=Lib.hid hr
 have HC:=Lib.hid hcnt
 have HPost:=Lib.hid (show ∀ (C:Option Addr) (cc:Nat) (M:List Int) (w':World),M=edgesL (ptsL (fun b=>b.b) (fun b=>b.d) L)→w'.ownsRow w.heap.size 3 1 (.slice C M.length cc) M.length (nC M)→Below w.heap.size w w'→(∃ C' cc',Ending.returned (.slice C M.length cc) = .returned (.slice C' (edgesL (ptsL (fun b=>b.b) (fun b=>b.d) L)).length cc')∧w'.ownsRow w.heap.size 3 1 (.slice C' (edgesL (ptsL (fun b=>b.b) (fun b=>b.d) L)).length cc') (edgesL (ptsL (fun b=>b.b) (fun b=>b.d) L)).length (nC (edgesL (ptsL (fun b=>b.b) (fun b=>b.d) L))))∧Below w.heap.size w w' from fun C cc M w' e h1 h2=>by subst e;exact ⟨⟨C,cc,rfl,h1⟩,h2⟩)
 clear h hn hr hcnt
 go_enter Tryz.func140,Tryz.ntmps140
 go_wp2
 go_loopw [5,14] (fun al i wr=>∃ (k:Nat) (C:Option Addr) (cc m:Nat),(k≤n∧m≤2097152∧Hid (wr.ownsRow w.heap.size 3 1 (.slice C m cc) m (nC (ptsL (fun b=>b.b) (fun b=>b.d) (L.take k)))))∧al = .slice C m cc∧i = .int .i64 k∧Below w.heap.size w wr∧w.heap.size≤wr.heap.size) (fun _ i _=>n - (intOf i).toNat)
 case atStart=>exact ⟨0,none,0,0,⟨Nat.zero_le _,by omega,World.ownsRow_nil _ _ _ _⟩,rfl,rfl,Below.refl _ _,Nat.le_refl _⟩
 case round=>
  obtain ⟨k,C,cc,m,⟨hk,hm,hown⟩,rfl,rfl,hbel,hsz⟩:=hrel
  obtain ⟨X,rfl⟩:∃ X:Later w.heap.size w,wr=X.w:=⟨⟨wr,hbel⟩,rfl⟩
  by_cases hlt:k < n
  ·have hkL:k < L.length:=by rw [HN.out];exact hlt
   obtain ⟨b,o,hA,hB,c0,c1,c2,c3,c4,c5,c6⟩:=rls_at H.out hkL
   subst hA
   have hbs:=H.out.bx k hkL
   have hct:=cnt_take hkL
   have hps:=pts_snoc (fun b=>b.b) (fun b=>b.d) hkL
   have hrx:=HR.out (L.getD k rl0) (by rw [getR_lt hkL];exact List.getElem_mem _)
   obtain ⟨A1,cc1,hP⟩:∃ A1 cc1,P k=(A1,cc1):=⟨_,_,rfl⟩
   rw [hP] at c5 hbs
   obtain ⟨q,hq⟩:∃ q,L.getD k rl0=q:=⟨_,rfl⟩
   rw [hq] at c0 c1 c2 c3 c4 c5 c6 hbs hct hps hrx
   obtain ⟨nb,hnb⟩:∃ m,q.boxes.length=m:=⟨_,rfl⟩
   rw [hnb] at c5 hct
   obtain ⟨Z,hZ⟩:∃ Z,ptsL (fun b=>b.b) (fun b=>b.d) (L.take k)=Z:=⟨_,rfl⟩
   have hZl:Z.length=2*cntB (L.take k):=by rw [← hZ,ptsL_len]
   rw [hZ] at hown hps
   have hZm:Z.length=m:=by have:=hown.out.1;simpa [nC] using this
   have HQ:=Lib.hid (show q.boxes.length=nb∧(∀ b ∈ q.boxes,0≤b.d∧b.d≤65535)∧Bxs w w.heap.size A1 q.boxes∧ptsL (fun b=>b.b) (fun b=>b.d) (L.take (k+1))=Z ++ ptsB (fun b=>b.b) (fun b=>b.d) q.boxes∧Z.length=m from ⟨hnb,hrx,hbs,hps,hZm⟩)
   have hmb:m+2*nb≤2097152:=by have:=HC.out;omega
   clear hbs hct hps hrx hP hq hnb hZl hZ hZm
   go_wp2
   go_loopw [5,21] (fun al i wr=>∃ (j:Nat) (C:Option Addr) (cc:Nat),(j≤nb∧Hid (wr.ownsRow w.heap.size 3 1 (.slice C (m+2*j) cc) (m+2*j) (nC (Z ++ ptsB (fun b=>b.b) (fun b=>b.d) (q.boxes.take j)))))∧al = .slice C (m+2*j) cc∧i = .int .i64 j∧Below w.heap.size w wr∧w.heap.size≤wr.heap.size) (fun _ i _=>nb - (intOf i).toNat)
   case atStart=>exact ⟨0,C,cc,⟨Nat.zero_le _,by rw [show ptsB (fun b=>b.b) (fun b=>b.d) (q.boxes.take 0)=[] from rfl,List.append_nil];exact own_keep hown.out q9l⟩,rfl,rfl,q9l,by go_size⟩
   case round=>
    obtain ⟨j,C,cc,⟨hj,hown⟩,rfl,rfl,hbel,hsz⟩:=hrel
    obtain ⟨X,rfl⟩:∃ X:Later w.heap.size w,wr=X.w:=⟨⟨wr,hbel⟩,rfl⟩
    by_cases hjl:j < nb
    ·have hjL:j < q.boxes.length:=by rw [HQ.out.1];exact hjl
     obtain ⟨b',o',hA',hB',d0,d1,d2,d3⟩:=bxs_at HQ.out.2.2.1 hjL
     subst hA'
     have hf2:=HQ.out.2.1 (q.boxes.getD j bx0) (by rw [getX_lt hjL];exact List.getElem_mem _)
     have hps:=ptsB_snoc (fun b=>b.b) (fun b=>b.d) hjL
     obtain ⟨z,hz⟩:∃ z,q.boxes.getD j bx0=z:=⟨_,rfl⟩
     rw [hz] at d0 d1 d2 d3 hf2 hps
     have HPS:=Lib.hid hps
     have P2:=Lib.hid (corner_b z)
     clear hz hps
     go_wp2_with (first
      | (go_at_call 142;refine (P2.out _).mono ?_;rintro e w' ⟨rfl,hb⟩;obtain ⟨X1,rfl,hl1,hm1⟩:=later _ hb (Nat.le_refl _);clear hb;(try simp only [q9A,q9B,q9D] at hm1 hl1))
      | (at_builtin;refine wpList_append_own_at _ rfl _ _ 112 rfl w.heap.size 3 i0 (.int .i64 0) 1 8 Tryz.underlying112 hi hz0 hz1 hz2 rfl (by decide) _ _ _ rfl ((own_keep hown.out (show Below X.w.heap.size X.w X1.w from q9l)).alloc _) ⟨X1.w.heap.size,0,none⟩ 2 2 [.int .i64 z.b, .int .i64 (z.d+1)] rfl rfl (cells_two_new _ _ _ _) (by intro u hu;simp at hu;rcases hu with rfl|rfl <;> rfl) (by unfold maxLen;omega) (by omega) (by go_size) ?_;intro v3 w3 hown3 hgrow3 _ _;obtain ⟨A3,k3,rfl⟩:=own_formN hown3;have hb3:Below w.heap.size w w3:=Below.grown (Below.alloc (show Below w.heap.size w X1.w from q9l) (by go_size) _) hgrow3 (by go_size) (fun k hk=>(hown.out.lt k hk).1);have HO3:=Lib.hid hown3;clear hown3 hgrow3))
     go_roundw
     case rel=>
      have h9:=HO3.out
      refine ⟨j+1,_,_,⟨by omega,?_⟩,rfl,by go_num,hb3,hb3.size⟩
      rw [HPS.out,← List.append_assoc]
      unfold nC at h9 ⊢
      rw [List.map_append]
      exact h9
     case measure=>simp [intOf];omega
    ·obtain rfl:j=nb:=by omega
     have h9:=hown.out
     have e9:q.boxes.take j=q.boxes:=by rw [← HQ.out.1,List.take_length]
     rw [e9,← HQ.out.2.2.2.1] at h9
     have HO:=Lib.hid h9
     have hl9:m+2*j≤2097152:=by omega
     clear h9 hown
     go_wp2
     go_roundw
     case rel=>exact ⟨k+1,C,cc,m+2*j,⟨by omega,hl9,HO.out⟩,rfl,by go_num,q9l,by go_size⟩
     case measure=>simp [intOf];omega
  ·obtain rfl:k=n:=by omega
   have h9:=hown.out
   rw [← HN.out,List.take_length] at h9
   obtain ⟨Z,hZ⟩:∃ Z,ptsL (fun b=>b.b) (fun b=>b.d) L=Z:=⟨_,rfl⟩
   rw [hZ] at h9
   have hZm:Z.length=m:=by have:=h9.1;simpa [nC] using this
   have HO:=Lib.hid h9
   have HZ:=Lib.hid (And.intro hZ hZm)
   clear h9 hown hZ hZm
   go_wp2_with fail
   refine (sort_own HO.out (by omega)).mono ?_
   rintro e w1 ⟨rfl,hown1,hgrow1⟩
   have hb1:Below w.heap.size w w1:=Below.grown X.is hgrow1 hsz (fun k hk=>(HO.out.lt k hk).1)
   have HO1:=Lib.hid hown1
   have hs1:=hgrow1.size
   obtain ⟨X1,rfl⟩:∃ Z:Later w.heap.size w,w1=Z.w:=⟨⟨w1,hb1⟩,rfl⟩
   clear hown1 hgrow1
   go_wp2_with fail
   refine (compact_own HO1.out (by omega)).mono ?_
   rintro e w2 ⟨rfl,hown2,hgrow2⟩
   have hb2:Below w.heap.size w w2:=Below.grown hb1 hgrow2 (by omega) (fun k hk=>(HO1.out.lt k hk).1)
   have HE:=Lib.hid (HPost.out C cc (Lib.compact (sortL Z)) w2 (by rw [HZ.out.1];rfl) hown2 hb2)
   clear hown2 hgrow2 hb2
   go_wp2
   go_ret
   exact HE.out
end Go.Proofs.YthlijfligikciaaGreat
namespace Go.Proofs.YthlijfligikciaaGreat
open Go.RowKit
section
variable {P:Program} {ops:Array Oper} {Q:Exit→Act→World→Prop} {md:Region.Mode} {S:World→Prop} {E:Nat→Bool}
def wpAnyE (P:Program) (md:Region.Mode) (ops:Array Oper) (Q:Exit→Act→World→Prop) (S:World→Prop) (E:Nat→Bool):Nat→Array Bool→Act→World→Prop
 | 0,listed,a,w=>Region.ready md ops listed=[]∧Q .normal a w
 | fuel+1,listed,a,w=>
  (Region.ready md ops listed=[]→Q .normal a w)∧
  ∀ i ∈ Region.ready md ops listed,wpOp P ops Q i (fun a' w'=>(E i=true→S w')∧wpAnyE P md ops Q S E fuel (listed.setIfInBounds i true) a' w') a w
theorem wpAny_of_early:∀ (fuel:Nat) (listed:Array Bool) (a:Act) (w:World),wpAnyE P md ops Q S E fuel listed a w→wpAny P md ops Q fuel listed a w
 | 0,_,_,_,h=>h
 | fuel+1,_,_,_,h=>⟨h.1,fun i hi=>wpOp_mono (fun a' w' h'=>wpAny_of_early fuel _ a' w' h'.2) (h.2 i hi)⟩
theorem wpAnyE_first {i:Nat} {oi:Oper} {v:Value} (hi:ops[i]? = some oi) (hsel:∀ (j:Nat) (o:Oper) cs b,ops[j]? = some o→o.op ≠ .select cs b)
  (hQ:∀ c a w,Q (.panic c) (a.put oi.dst v) w→Q (.panic c) a w) (hE:∀ j oj,ops[j]? = some oj→E j=false→∃ e ∈ oj.after,Region.binds md e=true∧e.on=i):
  ∀ (fuel:Nat) (listed:Array Bool) (a:Act) (w:World),
   (∀ j oj,ops[j]? = some oj→j≠i→listed.getD j true=false→(∀ e ∈ oj.after,Region.binds md e=true→e.on≠i)→oi.apart ops oj=true)→
   i ∈ Region.ready md ops listed→YieldsIf P ops S oi v a→S w→
   wpAnyE P md ops Q S E fuel (listed.setIfInBounds i true) (a.put oi.dst v) w→wpAnyE P md ops Q S E (fuel+1) listed a w:=by
 intro fuel
 induction fuel with
 | zero=>
  intro listed a w _ hr hy hS H
  refine ⟨fun h=>(by rw [h] at hr;cases hr),fun j hj=>?_⟩
  by_cases hji:j=i
  ·subst hji;exact hy.wpOp hi hS ⟨fun _=>hS,H⟩
  ·have:=ready_mono hj hji
   rw [H.1] at this
   cases this
 | succ fuel ih=>
  intro listed a w hfree hr hy hS H
  refine ⟨fun h=>(by rw [h] at hr;cases hr),fun j hj=>?_⟩
  by_cases hji:j=i
  ·subst hji;exact hy.wpOp hi hS ⟨fun _=>hS,H⟩
  ·have h1:=H.2 j (ready_mono hj hji)
   obtain ⟨hjun,oj,hoj,hall⟩:=mem_ready.1 hj
   have hnot:∀ e ∈ oj.after,Region.binds md e=true→e.on≠i:=fun e he hb heq=>by
    have h1:=hall e he hb
    have h0:=(mem_ready.1 hr).1
    rw [heq] at h1
    rcases Nat.lt_or_ge i listed.size with h'|h'
    ·simp [h'] at h0 h1;rw [h0] at h1;cases h1
    ·simp [Array.getElem?_eq_none h'] at h1
   have hEj:E j=true:=by
    cases hb:E j with
    | true=>rfl
    | false=>
     obtain ⟨e,he,h1,h2⟩:=hE j oj hoj hb
     exact absurd h2 (hnot e he h1)
   have h2:=wpOp_putIf hoj (hfree j oj hoj hji hjun hnot) (fun cs b=>hsel i oi cs b hi) (fun cs b=>hsel j oj cs b hoj) hQ hy h1
   have hfree':∀ k ok,ops[k]? = some ok→k≠i→(listed.setIfInBounds j true).getD k true=false→
     (∀ e ∈ ok.after,Region.binds md e=true→e.on≠i)→oi.apart ops ok=true:=fun k ok hk hki hun hno=>by
    refine hfree k ok hk hki ?_ hno
    by_cases hjk:j=k
    ·subst hjk;exact hjun
    ·rw [getD_set_ne true hjk] at hun;exact hun
   refine wpOp_mono (fun a' w' h3=>⟨h3.2.1,ih (listed.setIfInBounds j true) a' w' hfree' (ready_mono hr (Ne.symm hji)) h3.1 (h3.2.1 hEj) ?_⟩) h2
   rw [Array.setIfInBounds_comm _ _ hji]
   exact h3.2.2
theorem wpAnyE_take {i:Nat} {oi:Oper} {v:Value} {fuel:Nat} {listed:Array Bool} {a:Act} {w:World} (hi:ops[i]? = some oi)
  (hs:Region.noSelect ops=true) (hf:Region.free md ops listed i=true) (hr:(Region.ready md ops listed).contains i=true)
  (hE:((List.range ops.size).all fun j=>E j || Region.waitsFor md ops j i)=true)
  (hQ:∀ c a w,Q (.panic c) (a.put oi.dst v) w→Q (.panic c) a w) (hy:YieldsIf P ops S oi v a) (hS:S w)
  (h:wpAnyE P md ops Q S E fuel (listed.setIfInBounds i true) (a.put oi.dst v) w):wpAnyE P md ops Q S E (fuel+1) listed a w:=
 wpAnyE_first hi (Region.noSelect_spec hs) hQ (fun j oj hj hb=>by
  have h1:=List.all_eq_true.1 hE j (by rw [List.mem_range];exact (Array.getElem?_eq_some_iff.1 hj).1)
  rw [hb,Bool.false_or] at h1
  obtain ⟨oj',hj',e,he,h2,h3⟩:=Region.waitsFor_spec h1
  rw [hj] at hj'
  injection hj' with hj'
  subst hj'
  exact ⟨e,he,h2,h3⟩) fuel listed a w (Region.free_spec hi hf) (by simpa using hr) hy hS h
theorem q9t {i:Nat} {oi:Oper} {v:Value} {fuel:Nat} {listed:Array Bool} {a:Act} {w:World} (hi:ops[i]? = some oi) (hS:S w)
  (h:wpAnyE P md ops Q S E fuel (listed.setIfInBounds i true) (a.put oi.dst v) w) (hs:Region.noSelect ops=true:=by kernel_rfl) (hf:Region.free md ops listed i=true:=by kernel_rfl) (hr:(Region.ready md ops listed).contains i=true:=by kernel_rfl)
  (hE:((List.range ops.size).all fun j=>E j || Region.waitsFor md ops j i)=true:=by kernel_rfl)
  (hQ:∀ c a w,Q (.panic c) (a.put oi.dst v) w→Q (.panic c) a w:=by exact fun _ _ _ h=>h) (hg:Region.wanted oi (yielded ops a.tmps)=true:=by rfl) (hy:∀ w9,S w9→(execOp a.eval oi).run P w9 = .ok (.value v) w9:=by intro w9 hSw;(try dsimp only at hSw);go_simp;all_goals (with_reducible rfl)):wpAnyE P md ops Q S E (fuel+1) listed a w:=wpAnyE_take hi hs hf hr hE hQ (.inl ⟨hg,hy⟩) hS h
theorem q9u {i:Nat} {oi:Oper} {v:Value} {fuel:Nat} {listed:Array Bool} {a:Act} {w:World} (hi:ops[i]? = some oi) (hS:S w)
  (h:wpAnyE P md ops Q S E fuel (listed.setIfInBounds i true) (a.put oi.dst v) w) (hs:Region.noSelect ops=true:=by kernel_rfl) (hf:Region.free md ops listed i=true:=by kernel_rfl) (hr:(Region.ready md ops listed).contains i=true:=by kernel_rfl)
  (hE:((List.range ops.size).all fun j=>E j || Region.waitsFor md ops j i)=true:=by kernel_rfl)
  (hQ:∀ c a w,Q (.panic c) (a.put oi.dst v) w→Q (.panic c) a w:=by exact fun _ _ _ h=>h) (hg:Region.wanted oi (yielded ops a.tmps)=true:=by kernel_rfl) (hy:∀ w9,S w9→(execOp a.eval oi).run P w9 = .ok (.value v) w9:=by intro w9 hSw;(try dsimp only at hSw);go_simp;all_goals (with_reducible rfl)):wpAnyE P md ops Q S E (fuel+1) listed a w:=wpAnyE_take hi hs hf hr hE hQ (.inl ⟨hg,hy⟩) hS h
theorem q9x {α:Type} {l:List α} {i:Nat} {a:α}:l.toArray.setIfInBounds i a=(l.set i a).toArray:=by simp
theorem q9y {α:Type} {l:List α} {a b:α}:(a :: l).set 0 b=b :: l:=rfl
theorem q9z {α:Type} {l:List α} {a b:α} {i:Nat}:(a :: l).set (i+1) b=a :: l.set i b:=rfl
theorem wpAnyE_one {i:Nat} {oi:Oper} {fuel:Nat} {listed:Array Bool} {a:Act} {w:World} (hi:ops[i]? = some oi) (hr:Region.ready md ops listed=[i])
  (h:wpList P ops (Exit.then (fun a' w'=>(E i=true→S w')∧wpAnyE P md ops Q S E fuel (listed.setIfInBounds i true) a' w') Q) [oi] a w):wpAnyE P md ops Q S E (fuel+1) listed a w:=by
 refine ⟨fun h0=>(by rw [hr] at h0;cases h0),fun j hj=>?_⟩
 rw [hr] at hj
 obtain rfl:j=i:=by simpa using hj
 unfold wpOp
 simp only [hi]
 unfold wpList at h
 split
 ·rename_i hw
  rw [if_pos hw] at h
  rcases h with h|h
  ·left
   unfold Oper.wp at h ⊢
   generalize (execOp a.eval oi).run P w=r at h ⊢
   cases r with
   | ok n w'=>
    cases n <;> simp only [Oper.upon] at h ⊢ <;>
     first
      | exact h
      | exact Calls.mono h (fun e w'' he=>by cases e <;> exact he)
      | exact Rows.mono h (fun _ _ he=>he)
   | halt x w'=>cases x <;> simp only [Oper.upon] at h ⊢ <;> exact h
  ·refine .inr ⟨h.1,?_⟩
   exact h.2
 ·rename_i hw
  rw [if_neg hw] at h
  exact h
theorem wpAnyE_seq:∀ (l:List Oper) (k:Nat) (listed:Array Bool) (a:Act) (w:World),(∀ j,l[j]? = ops[k+j]?)→
  Region.seqB md ops l.length k listed=true→(∀ j,k≤j→E j=false)→wpList P ops Q l a w→wpAnyE P md ops Q S E l.length listed a w
 | [],_,_,_,_,_,hB,_,h=>⟨by simpa [Region.seqB] using hB,h⟩
 | o :: l,k,listed,a,w,hl,hB,hE,h=>by
  have h0:ops[k]? = some o:=by simpa using (hl 0).symm
  simp only [List.length_cons,Region.seqB,Bool.and_eq_true,decide_eq_true_eq] at hB
  refine ⟨fun h1=>(by rw [hB.1] at h1;cases h1),fun i hi=>?_⟩
  rw [hB.1] at hi
  have hik:i=k:=by simpa using hi
  subst hik
  have hw:wpOp P ops Q i (wpList P ops Q l) a w:=by unfold wpOp;simp only [h0];exact h
  exact wpOp_mono (fun a' w' h'=>⟨fun e=>(by rw [hE i (Nat.le_refl _)] at e;cases e),wpAnyE_seq l (i+1) _ a' w' (fun j=>by have:=hl (j+1);simpa [Nat.add_assoc,Nat.add_comm 1 j] using this) hB.2 (fun j hj=>hE j (by omega)) h'⟩) hw
theorem wpAnyE_rest {l:List Oper} {k n:Nat} {listed:Array Bool} {a:Act} {w:World} (hn:n=(l.drop k).length) (hB:Region.seqB md l.toArray (l.drop k).length k listed=true) (hE:∀ j,k≤j→E j=false)
  (h:wpList P l.toArray Q (l.drop k) a w):wpAnyE P md l.toArray Q S E n listed a w:=by
 subst hn
 exact wpAnyE_seq (l.drop k) k listed a w (fun j=>by simp [List.getElem?_drop]) hB hE h
theorem wp_region_early {id:Nat} {a:Act} {w:World} (S:World→Prop) (E:Nat→Bool) (hm:P.follows .mixedOrders=true) (hS:S w.drew)
  (h:S w.drew→wpAnyE P .any ops Q S E ops.size (Array.replicate ops.size false) a w.drew):(Code.region id ops true).wp P Q a w:=
 wp_region_any hm (wpAny_of_early _ _ _ _ (h hS))
end
end Go.Proofs.YthlijfligikciaaGreat
