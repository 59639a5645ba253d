/- A part of one proof: CqF CqG. No condition. -/
import Derived.Test.YthlijfligikciaaGreatY23
import Derived.Test.YthlijfligikciaaGreatY33
namespace Go.Proofs.YthlijfligikciaaGreat
open Go.RowKit Go.Maps
set_option linter.unusedSimpArgs false
set_option linter.unusedVariables false
set_option maxRecDepth 2000
structure OutS (w:World) (o:Nat) (A:Option Addr) (cap:Nat) (L:List Sh):Prop where
 c0:w.cell? ⟨o,0,none⟩=some (.slice A L.length cap)
 f0:w.frozen? ⟨o,0,none⟩=false
 own:w.ownsRow (o+1) 75 6 (.slice A L.length cap) L.length (shF L)
section
variable {X:Nat→Prop} {w w' w1 w2:World} {o cap c1:Nat} {A A1:Option Addr} {L L1 L2:List Sh}
theorem OutS.lt (h:OutS w o A cap L):o < w.heap.size:=cell_lt h.c0
theorem OutS.far (h:OutS w o A cap L):∀ j,OX o A j→o≤j∧j < w.heap.size:=fun j hj=>by
 rcases hj with rfl|hj
 ·exact ⟨Nat.le_refl _,h.lt⟩
 ·have:=h.own.lt j (by rw [gOf_own];exact hj);omega
theorem OutS.chg (h:OutS w o A cap L) (hc:Chg X w w') (hX:∀ j,OX o A j→¬ X j):OutS w' o A cap L:=
 ⟨(hc.cell (p:=⟨o,0,none⟩) h.lt (hX o (.inl rfl))).trans h.c0,(hc.frozen (p:=⟨o,0,none⟩) h.lt (hX o (.inl rfl))).trans h.f0,own_chg h.own hc (fun k hk=>hX k (.inr (by rw [gOf_own] at hk;exact hk)))⟩
theorem OutS.keep (h:OutS w o A cap L) (hb:Below w.heap.size w w'):OutS w' o A cap L:=h.chg (X:=fun _=>False) (Chg.of hb) (fun _ _ e=>e)
def ToldS (w w':World) (o:Nat) (A:Option Addr) (L:List Sh):Prop:=∃ A' cap',OutS w' o A' cap' L∧Chg (OX o A) w w'∧∀ j,gP A' j→gP A j∨w.heap.size≤j
theorem OutS.told (h:OutS w o A cap L) (hb:Below w.heap.size w w'):ToldS w w' o A L:=⟨A,cap,h.keep hb,Chg.of hb,fun j hj => .inl hj⟩
theorem ToldS.step (hc:Chg (OX o A) w w1) (hg:∀ j,gP A1 j→gP A j∨w.heap.size≤j) (h2:ToldS w1 w2 o A1 L2):ToldS w w2 o A L2:=by
 obtain ⟨A',cap',h,hc2,hg2⟩:=h2
 have hs:=hc.size
 refine ⟨A',cap',h,hc.trans hc2 (fun j hj=>?_),fun j hj=>?_⟩
 ·rcases hj with hj|hj
  ·exact .inl (.inl hj)
  ·exact (hg j hj).elim (fun e => .inl (.inr e)) .inr
 ·rcases hg2 j hj with e|e
  ·exact hg j e
  ·exact .inr (by omega)
theorem ToldS.step_below (hb:Below w.heap.size w w1) (h2:ToldS w1 w2 o A L2):ToldS w w2 o A L2:=ToldS.step (Chg.of hb) (fun j hj => .inl hj) h2
theorem ToldS.size (h:ToldS w w1 o A L1):w.heap.size≤w1.heap.size:=by obtain ⟨_,_,_,h,_⟩:=h;exact h.size
end
theorem shF_app (L:List Sh) (r:Sh):shF (L ++ [r])=shF L ++ [.int .i64 r.id, .int .i64 r.a, .int .i64 r.b, .int .i64 r.c, .int .i64 r.d, .int .i64 r.label]:=by simp [shF,shC]
set_option maxHeartbeats 16000000 in
theorem outS_any (o cap:Nat) (A:Option Addr) (L:List Sh) (r:Sh) (w:World) (h:OutS w o A cap L) (hL:L.length≤1000000):
  Calls Tryz.prog 127 #[.agg #[.int .i64 r.id, .int .i64 r.a, .int .i64 r.b, .int .i64 r.c, .int .i64 r.d, .int .i64 r.label], .pointer (some ⟨o,0,none⟩)] w fun e w'=>e = .returned (.tuple #[])∧ToldS w w' o A (L ++ [r]):=by
 obtain ⟨i0,hi,hz0,hz1,hz2⟩:=info_parts (show (Tryz.prog.info? 75).map (fun i=>(i.zero,i.size,i.bytes))=some (some (.agg #[.int .i64 0, .int .i64 0, .int .i64 0, .int .i64 0, .int .i64 0, .int .i64 0]),6,48) by kernel_rfl)
 have hol:=h.lt
 obtain ⟨c0,f0,hown⟩:=h
 obtain ⟨n,hn⟩:∃ n,L.length=n:=⟨_,rfl⟩
 rw [hn] at c0 hown hL
 have HO:=Lib.hid (And.intro hown hn)
 clear hown hn
 have h9:=cells_six_new (w.alloc (.cells #[.int .i64 r.id, .int .i64 r.a, .int .i64 r.b, .int .i64 r.c, .int .i64 r.d, .int .i64 r.label] 75)) (.int .i64 r.id) (.int .i64 r.a) (.int .i64 r.b) (.int .i64 r.c) (.int .i64 r.d) (.int .i64 r.label) 75
 rw [show (w.alloc (.cells #[.int .i64 r.id, .int .i64 r.a, .int .i64 r.b, .int .i64 r.c, .int .i64 r.d, .int .i64 r.label] 75)).heap.size=w.heap.size+1 by simp] at h9
 have H9:=Lib.hid h9
 clear h9
 go_enter Tryz.func127,Tryz.ntmps127
 go_wp2_with (at_builtin;refine wpList_append_own_at _ rfl _ _ 54 rfl (o+1) 75 i0 (.agg #[.int .i64 0, .int .i64 0, .int .i64 0, .int .i64 0, .int .i64 0, .int .i64 0]) 6 48 Tryz.underlying54 hi hz0 hz1 hz2 rfl (by decide) (.slice A n cap) n _ (by rfl) ((HO.out.1.alloc _).alloc _) ⟨w.heap.size+1,0,none⟩ 1 1 [.int .i64 r.id, .int .i64 r.a, .int .i64 r.b, .int .i64 r.c, .int .i64 r.d, .int .i64 r.label] (by rfl) (by rfl) (H9.out) (by intro u hu;simp at hu;rcases hu with rfl|rfl|rfl|rfl|rfl|rfl <;> rfl) (by unfold maxLen;omega) (by omega) (by simp;omega) ?_)
 intro v3 w3 hown3 hgrow3 _ hat3
 obtain ⟨A3,k3,rfl⟩:=own_formN hown3
 have hlt:=HO.out.1.lt
 have hc3:Chg (gP A) w w3:=(((Chg.refl (w:=w) (X:=gP A)).alloc _).alloc _).trans (Chg.ofGrown (X:=gP A) hgrow3 (fun k hk=>by rw [gOf_own] at hk;exact hk)) (fun k hk => .inl hk)
 have hA3:∀ j,gP A3 j→gP A j∨w.heap.size≤j:=fun j hj=>by
  rw [gOf_own,gOf_own] at hat3
  rcases hat3 with e|e
  ·exact .inl (e.symm.trans hj)
  ·refine .inr ?_
   unfold gP at hj
   rw [e] at hj
   injection hj with hj
   try simp at hj
   omega
 have hoA:¬ gP A o:=fun e=>by have:=hlt o (by rw [gOf_own];exact e);omega
 have a0:w3.cell? ⟨o,0,none⟩=some (.slice A n cap):=(hc3.cell (p:=⟨o,0,none⟩) hol hoA).trans c0
 have b0:w3.frozen? ⟨o,0,none⟩=false:=(hc3.frozen (p:=⟨o,0,none⟩) hol hoA).trans f0
 have hs3:=hc3.size
 have HE:=Lib.hid (show w3.ownsRow (o+1) 75 6 (.slice A3 (n+1) k3) (n+1) (shF (L ++ [r]))∧Chg (OX o A) w w3∧∀ j,gP A3 j→gP A j∨w.heap.size≤j from ⟨by rw [shF_app];exact hown3,hc3.mono (fun k hk => .inl (.inr hk)),hA3⟩)
 clear hown3 hgrow3 hat3 hlt hc3 hA3 hoA c0 f0
 go_wp2_with fail
 refine bodyPost_end (v := .tuple #[]) (by first|rfl|kernel_rfl) rfl ⟨rfl,A3,k3,⟨?_,?_,?_⟩,HE.out.2.1.set (p:=⟨o,0,none⟩) (.inl (.inl rfl)) _,HE.out.2.2⟩
 ·rw [List.length_append,HO.out.2,List.length_singleton];go_simp
 ·go_simp
 ·rw [List.length_append,HO.out.2,List.length_singleton];exact own_set HE.out.1 (p:=⟨o,0,none⟩) (by show o < o+1;omega) _
def mtS (a b c d:Int) (L:List Sh):List Sh:=L.filter (fun s=>meetsB s.a s.b s.c s.d a b c d)
theorem mtS_app (a b c d:Int) (L M:List Sh):mtS a b c d (L ++ M)=mtS a b c d L ++ mtS a b c d M:=by simp [mtS]
theorem mtS_le (a b c d:Int) (L:List Sh):(mtS a b c d L).length≤L.length:=List.length_filter_le _ _
theorem mtS_none {a b c d p q r s:Int} {L:List Sh} (hL:∀ u ∈ L,okS u=true∧p≤u.a∧u.c≤r∧q≤u.b∧u.d≤s) (hr:rightB p q r s=true) (h:meetsB p q r s a b c d=false):mtS a b c d L=[]:=by
 unfold mtS
 rw [List.filter_eq_nil_iff]
 intro u hu hm
 have h1:=meets_iff.1 hm
 have h2:=hL u hu
 have h3:=right_iff.1 h1.1
 rw [show meetsB p q r s a b c d=true from meets_iff.2 ⟨hr,h1.2.1,by omega,by omega,by omega,by omega⟩] at h
 cases h
structure Rb (w:World) (rb:Nat) (a b c d:Int):Prop where
 c0:w.cell? ⟨rb,0,none⟩=some (.int .i64 a)
 c1:w.cell? ⟨rb,1,none⟩=some (.int .i64 b)
 c2:w.cell? ⟨rb,2,none⟩=some (.int .i64 c)
 c3:w.cell? ⟨rb,3,none⟩=some (.int .i64 d)
theorem Rb.lt {w:World} {rb:Nat} {a b c d:Int} (h:Rb w rb a b c d):rb < w.heap.size:=cell_lt h.c0
theorem Rb.chg {X:Nat→Prop} {w w':World} {rb:Nat} {a b c d:Int} (h:Rb w rb a b c d) (hc:Chg X w w') (h1:¬ X rb):Rb w' rb a b c d:=
 ⟨(hc.cell (p:=⟨rb,0,none⟩) h.lt h1).trans h.c0,(hc.cell (p:=⟨rb,1,none⟩) h.lt h1).trans h.c1,(hc.cell (p:=⟨rb,2,none⟩) h.lt h1).trans h.c2,(hc.cell (p:=⟨rb,3,none⟩) h.lt h1).trans h.c3⟩
theorem Rb.keep {w w':World} {rb:Nat} {a b c d:Int} (h:Rb w rb a b c d) (hb:Below w.heap.size w w'):Rb w' rb a b c d:=h.chg (X:=fun _=>False) (Chg.of hb) (fun e=>e)
set_option maxHeartbeats 4000000 in
theorem meets1_any (rb:Nat) (a b c d p q r s:Int) (w:World) (h:Rb w rb a b c d):Calls Tryz.prog 94 #[.agg #[.int .i64 p, .int .i64 q, .int .i64 r, .int .i64 s], .pointer (some ⟨rb,0,none⟩)] w fun e w'=>e = .returned (.bool (meetsB p q r s a b c d))∧Below w.heap.size w w':=by
 have pm:=fun (Y:World)=>meets_any p q r s a b c d Y
 obtain ⟨mB,hmB⟩:∃ z,meetsB p q r s a b c d=z:=⟨_,rfl⟩
 rw [hmB] at pm ⊢
 have PM:=Lib.hid pm
 have hl:=h.lt
 obtain ⟨c0,c1,c2,c3⟩:=h
 clear pm hmB
 go_enter Tryz.func94,Tryz.ntmps94
 go_wp2_with (first
  | (go_at_call 95;refine (PM.out _).mono ?_;rintro e w' ⟨rfl,hb⟩;obtain ⟨X1,rfl,hl1,hm1⟩:=later _ hb (Nat.le_refl _);clear hb;(try simp only [q9A,q9B,q9D] at hm1 hl1)))
 go_ret
 exact ⟨rfl,q9l⟩
def ks (k:Fin 4→CT):Nat→List Sh
 | 0=>[]
 | 1=>(k 0).sh
 | 2=>(k 0).sh ++ (k 1).sh
 | 3=>(k 0).sh ++ ((k 1).sh ++ (k 2).sh)
 | _=>(k 0).sh ++ ((k 1).sh ++ ((k 2).sh ++ (k 3).sh))
theorem ks_step {k:Fin 4→CT} {j:Nat} (h:j < 4):ks k (j+1)=ks k j ++ (k ⟨j,h⟩).sh:=by
 match j,h with
 | 0,_|1,_|2,_|3,_=>simp [ks]
theorem ks_le {k:Fin 4→CT}:∀ j,(ks k j).length≤(kidsS fun j=>(k j).sh).length
 | 0|1|2|3|n+4=>by simp [ks,kidsS] <;> omega
theorem grown_none {w w':World} (h:w.grownBy w' none):Below w.heap.size w w':=⟨h.os,h.tape,h.output,h.size,fun k hk=>h.block k hk (by simp)⟩
theorem ML.keepB {w w':World} {z m:Nat} {L:List Sh} (h:ML w z m L) (hb:Below w.heap.size w w'):ML w' z m L:=h.same (hb.block _ h.lt)
theorem mtS_cons_true {a b c d:Int} {s:Sh} {L:List Sh} (h:meetsB s.a s.b s.c s.d a b c d=true):mtS a b c d (s :: L)=s :: mtS a b c d L:=by simp [mtS,h]
theorem mtS_cons_false {a b c d:Int} {s:Sh} {L:List Sh} (h:meetsB s.a s.b s.c s.d a b c d=false):mtS a b c d (s :: L)=mtS a b c d L:=by simp [mtS,h]
theorem mtS_perm {a b c d:Int} {L M:List Sh} (h:L.Perm M):(mtS a b c d L).Perm (mtS a b c d M):=h.filter _
def SeaPost (o:Nat) (A:Option Addr) (L M:List Sh) (w:World) (e:Ending) (w':World):Prop:=e = .returned (.tuple #[])∧∃ T,T.Perm M∧ToldS w w' o A (L ++ T)
set_option maxHeartbeats 16000000 in
theorem search_any (z rb o:Nat) (a b c d:Int) (hro:rb < o) (t:CT):∀ (l x y:Int) (cap:Nat) (A:Option Addr) (L:List Sh) (w:World),t.In w z l x y→t.At l x y→t.Sep→(∀ j,t.Bl j→j < o∧j≠rb)→Rb w rb a b c d→OutS w o A cap L→L.length+t.sh.length≤1000000→
  Calls Tryz.prog 126 #[.pointer t.ptr, .agg #[.int .i64 a, .int .i64 b, .int .i64 c, .int .i64 d],(.func (.func 94) #[] #[.pointer (some ⟨rb,0,none⟩)]),(.func (.func 127) #[] #[.pointer (some ⟨o,0,none⟩)])] w (SeaPost o A L (mtS a b c d t.sh) w):=by
 induction t with
 | nil=>
  intro l x y cap A L w hin hat hsep hbl hrb hout hlen
  have hen:=eql_node0
  have H:=Lib.hid hout
  rw [show CT.nil.ptr=none from rfl]
  clear hin hat hsep hbl hrb hout
  go_enter Tryz.func126,Tryz.ntmps126
  go_wp2_with fail
  exact bodyPost_ret (results_none rfl _ _ _) rfl ⟨rfl,[],by simp [mtS,CT.sh],by rw [List.append_nil];exact H.out.told q9l⟩
 | node nb m NL k ih=>
  intro l x y cap A L w hin hat hsep hbl hrb hout hlen
  have hen:=eql_node
  have hun:=at_un _ _ _ _ hat
  have hl0:=hat.1.1
  obtain ⟨n,hn⟩:∃ n,(CT.node nb m NL k).sh.length=n:=⟨_,rfl⟩
  have hCA:=hin.1
  rw [hn] at hCA hlen
  have hnl:=hCA.1
  have hml:=hin.2.1.lt
  have n0:w.cell? ⟨nb,0,none⟩=some (.int .i64 l):=(hCA.2 0 (by decide)).1
  have n1:w.cell? ⟨nb,1,none⟩=some (.int .i64 x):=(hCA.2 1 (by decide)).1
  have n2:w.cell? ⟨nb,2,none⟩=some (.int .i64 y):=(hCA.2 2 (by decide)).1
  have n3:w.cell? ⟨nb,3,none⟩=some (.pointer (k 0).ptr):=(hCA.2 3 (by decide)).1
  have n4:w.cell? ⟨nb,4,none⟩=some (.pointer (k 1).ptr):=(hCA.2 4 (by decide)).1
  have n5:w.cell? ⟨nb,5,none⟩=some (.pointer (k 2).ptr):=(hCA.2 5 (by decide)).1
  have n6:w.cell? ⟨nb,6,none⟩=some (.pointer (k 3).ptr):=(hCA.2 6 (by decide)).1
  have n7:w.cell? ⟨nb,7,none⟩=some (.int .i64 (n:Nat)):=(hCA.2 7 (by decide)).1
  have n8:w.cell? ⟨nb,8,none⟩=some (.map (some m)):=(hCA.2 8 (by decide)).1
  have hno:nb < o:=(hbl nb (.inl rfl)).1
  have hmo:m < o:=(hbl m (.inr (.inl rfl))).1
  have hol:=hout.lt
  rw [show (CT.node nb m NL k).ptr=some ⟨nb,0,none⟩ from rfl]
  cases n with
  | zero=>
   have hs0:(CT.node nb m NL k).sh=[]:=List.length_eq_zero_iff.1 hn
   have n7:w.cell? ⟨nb,7,none⟩=some (.int .i64 0):=n7
   rw [hs0]
   have H:=Lib.hid hout
   clear hin hat hsep hbl hrb hout hun hCA hn hs0 ih n0 n1 n2 n3 n4 n5 n6 n8
   go_enter Tryz.func126,Tryz.ntmps126
   go_wp2_with fail
   exact bodyPost_ret (results_none rfl _ _ _) rfl ⟨rfl,[],by simp [mtS],by rw [List.append_nil];exact H.out.told q9l⟩
  | succ n=>
   have hd7:((((n+1:Nat):Int)) == 0)=false:=by simp;omega
   obtain ⟨s9,hs9⟩:∃ s,s ∈ (CT.node nb m NL k).sh:=⟨(CT.node nb m NL k).sh[0]'(by omega),List.getElem_mem _⟩
   have hbx:=fun s hs=>un_box hl0 (hun s hs)
   have hcr:=(hbx s9 hs9).1
   have pb:=fun (Y:World)=>box_any l x y Y
   rw [hcr] at pb
   simp only [sel,if_true] at pb
   have hall:∀ u ∈ (CT.node nb m NL k).sh,okS u=true∧x*sd l≤u.a∧u.c≤x*sd l+sd l - 1∧y*sd l≤u.b∧u.d≤y*sd l+sd l - 1:=fun u hu=>⟨(hun u hu).1,(hbx u hu).2.1.1,(hbx u hu).2.1.2,(hbx u hu).2.2.1,(hbx u hu).2.2.2⟩
   have hrt:rightB (x*sd l) (y*sd l) (x*sd l+sd l - 1) (y*sd l+sd l - 1)=true:=by
    obtain ⟨h1,h2,h3,h4,h5,h6⟩:=cright_iff.1 hcr
    have g1:=grid_lt h1 h2 h3 h5
    have g2:=grid_lt h1 h2 h4 h6
    have:=sd_pos l
    exact right_iff.2 ⟨g1.1,by omega,g2.1,by omega,by omega,by omega,by omega,by omega,by omega,by omega⟩
   have pm:=fun (Y:World)=>meets_any (x*sd l) (y*sd l) (x*sd l+sd l - 1) (y*sd l+sd l - 1) a b c d Y
   have hnone:=mtS_none (a:=a) (b:=b) (c:=c) (d:=d) hall hrt
   obtain ⟨v1,hv1⟩:∃ z,x*sd l=z:=⟨_,rfl⟩
   rw [hv1] at pb pm hnone
   obtain ⟨v2,hv2⟩:∃ z,y*sd l=z:=⟨_,rfl⟩
   rw [hv2] at pb pm hnone
   obtain ⟨v3,hv3⟩:∃ z,v1+sd l - 1=z:=⟨_,rfl⟩
   rw [hv3] at pb pm hnone
   obtain ⟨v4,hv4⟩:∃ z,v2+sd l - 1=z:=⟨_,rfl⟩
   rw [hv4] at pb pm hnone
   obtain ⟨mB,hmB⟩:∃ z,meetsB v1 v2 v3 v4 a b c d=z:=⟨_,rfl⟩
   rw [hmB] at pm hnone
   have PB:=Lib.hid pb
   have PM:=Lib.hid pm
   have H:=Lib.hid (show (CT.node nb m NL k).In w z l x y∧(CT.node nb m NL k).At l x y∧(CT.node nb m NL k).Sep∧(∀ j,(CT.node nb m NL k).Bl j→j < o∧j≠rb)∧Rb w rb a b c d∧OutS w o A cap L∧(CT.node nb m NL k).sh.length=n+1 from ⟨hin,hat,hsep,hbl,hrb,hout,hn⟩)
   have hfarO:∀ j,OX o A j→j < w.heap.size:=fun j hj=>(hout.far j hj).2
   have HFO:=Lib.hid hfarO
   have IH:=Lib.hid ih
   generalize hPost:SeaPost o A L (mtS a b c d (CT.node nb m NL k).sh) w=Post
   clear hin hat hsep hbl hrb hout hun hCA hn ih pb pm hbx hcr hall hrt hmB hv1 hv2 hv3 hv4 hs9 hfarO
   cases mB with
   | false=>
    have HN:=Lib.hid (hnone rfl)
    clear hnone
    go_enter Tryz.func126,Tryz.ntmps126
    go_wp2_with (first
     | (go_at_call 30;refine (PB.out _).mono ?_;rintro e w' ⟨rfl,hb⟩;obtain ⟨X1,rfl,hl1,hm1⟩:=later _ hb (Nat.le_refl _);clear hb;(try simp only [q9A,q9B,q9D] at hm1 hl1))
     | (go_at_call 95;refine (PM.out _).mono ?_;rintro e w' ⟨rfl,hb⟩;obtain ⟨X2,rfl,hl2,hm2⟩:=later _ hb (Nat.le_refl _);clear hb;(try simp only [q9A,q9B,q9D] at hm2 hl2)))
    have hb2:Below w.heap.size w X2.w:=q9l
    have HE:=Lib.hid (show Post (.returned (.tuple #[])) X2.w by
     rw [← hPost,HN.out]
     exact ⟨rfl,[],List.Perm.refl _,by rw [List.append_nil];exact H.out.2.2.2.2.2.1.told hb2⟩)
    clear hb2
    go_wp2_with fail
    exact bodyPost_ret (results_none rfl _ _ _) rfl HE.out
   | true=>
    clear hnone
    go_enter Tryz.func126,Tryz.ntmps126
    go_wp2_with (first
     | (go_at_call 30;refine (PB.out _).mono ?_;rintro e w' ⟨rfl,hb⟩;obtain ⟨X1,rfl,hl1,hm1⟩:=later _ hb (Nat.le_refl _);clear hb;(try simp only [q9A,q9B,q9D] at hm1 hl1))
     | (go_at_call 95;refine (PM.out _).mono ?_;rintro e w' ⟨rfl,hb⟩;obtain ⟨X2,rfl,hl2,hm2⟩:=later _ hb (Nat.le_refl _);clear hb;(try simp only [q9A,q9B,q9D] at hm2 hl2))
     | (at_range;refine wpList_range_sh rfl _ 123 rfl 75 Tryz.underlying123 rfl (ML.keepB H.out.1.2.1 q9l) ?_))
    intro w0 D left0 cnt0 hrg0 hg0 hs0
    have hb2:Below w.heap.size w X2.w:=q9l
    have hs2:w.heap.size+1≤X2.w.heap.size:=by go_size
    have hb0:Below w.heap.size w w0:=hb2.trans ((grown_none hg0).mono hb2.size)
    have y0:w0.cell? ⟨w.heap.size,0,none⟩=some (.int .i64 a):=((grown_none hg0).cell (p:=⟨w.heap.size,0,none⟩) (by show w.heap.size < _;omega)).trans (by go_simp)
    have y1:w0.cell? ⟨w.heap.size,1,none⟩=some (.int .i64 b):=((grown_none hg0).cell (p:=⟨w.heap.size,1,none⟩) (by show w.heap.size < _;omega)).trans (by go_simp)
    have y2:w0.cell? ⟨w.heap.size,2,none⟩=some (.int .i64 c):=((grown_none hg0).cell (p:=⟨w.heap.size,2,none⟩) (by show w.heap.size < _;omega)).trans (by go_simp)
    have y3:w0.cell? ⟨w.heap.size,3,none⟩=some (.int .i64 d):=((grown_none hg0).cell (p:=⟨w.heap.size,3,none⟩) (by show w.heap.size < _;omega)).trans (by go_simp)
    have H0:=Lib.hid (And.intro hb0 hrg0)
    obtain ⟨r,hr⟩:∃ r,X2.w.heap.size=r:=⟨_,rfl⟩
    rw [hr] at H0 hs2 hs0 ⊢
    clear hb0 hg0 hrg0 hb2 hr
    go_wp2_with fail
    go_loopw [40] (fun _ wr=>∃ (U:List Sh) (left:Lit→Bool) (cnt:Nat),(r+1≤wr.heap.size∧wr.cell? ⟨w.heap.size,0,none⟩=some (.int .i64 a)∧wr.cell? ⟨w.heap.size,1,none⟩=some (.int .i64 b)∧wr.cell? ⟨w.heap.size,2,none⟩=some (.int .i64 c)∧wr.cell? ⟨w.heap.size,3,none⟩=some (.int .i64 d))∧Hid (RgL wr z m r U D left cnt∧∃ A1 c1 T,OutS wr o A1 c1 (L ++ T)∧(T ++ mtS a b c d U).Perm (mtS a b c d NL)∧Chg (OX o A) w wr∧(∀ z,gP A1 z→gP A z∨r+1≤z))) (fun _ wr=>wr.rangeLeft m r)
    case atStart=>exact ⟨NL,left0,cnt0,⟨by omega,y0,y1,y2,y3⟩,H0.out.2,A,cap,[],by simpa using H.out.2.2.2.2.2.1.keep H0.out.1,by simp,Chg.of H0.out.1,fun z hz => .inl hz⟩
    case round=>
     obtain ⟨U,left,cnt,⟨hsz,y0,y1,y2,y3⟩,hrel⟩:=hrel
     go_wp2_with (first
      | (at_next;refine wpList_next_sh rfl _ rfl rfl hrel.out.1 ?_ ?_))
     ·intro hU
      obtain ⟨hrg,A1,c1,T,ho1,hp1,hc1,hg1⟩:=hrel.out
      subst hU
      rw [show mtS a b c d []=[] from rfl,List.append_nil] at hp1
      have hno1:¬ OX o A nb:=fun e=>by have:=H.out.2.2.2.2.2.1.far nb e;omega
      have n3:wr.cell? ⟨nb,3,none⟩=some (.pointer (k 0).ptr):=(hc1.cell (p:=⟨nb,3,none⟩) hnl hno1).trans n3
      have n4:wr.cell? ⟨nb,4,none⟩=some (.pointer (k 1).ptr):=(hc1.cell (p:=⟨nb,4,none⟩) hnl hno1).trans n4
      have n5:wr.cell? ⟨nb,5,none⟩=some (.pointer (k 2).ptr):=(hc1.cell (p:=⟨nb,5,none⟩) hnl hno1).trans n5
      have n6:wr.cell? ⟨nb,6,none⟩=some (.pointer (k 3).ptr):=(hc1.cell (p:=⟨nb,6,none⟩) hnl hno1).trans n6
      have hix:∀ (j:Nat) (hj:j < 4) (W:World),(Instr.index 188 (.agg #[.pointer (k 0).ptr, .pointer (k 1).ptr, .pointer (k 2).ptr, .pointer (k 3).ptr]) (.int .i64 (j:Nat))).run Tryz.prog W = .ok (.pointer (k ⟨j,hj⟩).ptr) W:=fun j hj W=>by
       match j,hj with
       | 0,_=>rfl
       | 1,_=>rfl
       | 2,_=>rfl
       | 3,_=>rfl
      have HIX:=Lib.hid hix
      have HR:=Lib.hid (And.intro ho1 (And.intro hp1 (And.intro hc1 hg1)))
      clear hix hrel hrg ho1 hp1 hc1 hg1 n0 n1 n2 n7 n8 hno1
      go_wp2_with fail
      go_loopw [55] (fun u wr=>∃ j:Nat,u = .int .i64 j∧j≤4∧(r+1≤wr.heap.size∧wr.cell? ⟨w.heap.size,0,none⟩=some (.int .i64 a)∧wr.cell? ⟨w.heap.size,1,none⟩=some (.int .i64 b)∧wr.cell? ⟨w.heap.size,2,none⟩=some (.int .i64 c)∧wr.cell? ⟨w.heap.size,3,none⟩=some (.int .i64 d))∧Hid (∃ A1 c1 T,OutS wr o A1 c1 (L ++ T)∧T.Perm (mtS a b c d (NL ++ ks k j))∧Chg (OX o A) w wr∧(∀ z,gP A1 z→gP A z∨r+1≤z))) (fun u _=>4 - (intOf u).toNat)
      case atStart=>exact ⟨0,rfl,by omega,⟨hsz,y0,y1,y2,y3⟩,A1,c1,T,HR.out.1,by simpa [ks] using HR.out.2.1,HR.out.2.2.1,HR.out.2.2.2⟩
      case round=>
       obtain ⟨j,rfl,hjm,⟨hsz,y0,y1,y2,y3⟩,hrel⟩:=hrel
       obtain ⟨A1,c1,T,ho1,hp1,hc1,hg1⟩:=hrel.out
       by_cases hj:j < 4
       ·have hdj:decide ((j:Int) < 4)=true:=decide_eq_true (by omega)
        have hix:=HIX.out j hj
        have hwn:¬ OX o A1 w.heap.size:=fun e=>by
         rcases e with e|e
         ·omega
         ·rcases hg1 _ e with e'|e'
          ·have:=HFO.out _ (.inr e');omega
          ·omega
        have hTl:T.length≤NL.length+(ks k j).length:=by
         have h9:=hp1.length_eq
         have h8:=mtS_le a b c d (NL ++ ks k j)
         rw [List.length_append] at h8
         omega
        have hkl:NL.length+((ks k j).length+(k ⟨j,hj⟩).sh.length)≤n+1:=by
         have h9:=ks_le (k:=k) (j+1)
         rw [ks_step hj,List.length_append] at h9
         have h8:=H.out.2.2.2.2.2.2
         rw [sh_node,List.length_append] at h8
         omega
        have pp:=IH.out ⟨j,hj⟩ (l+1) (kx x ⟨j,hj⟩) (ky y ⟨j,hj⟩) c1 A1 (L ++ T) wr (in_chg hc1 _ _ _ _ (H.out.1.2.2 ⟨j,hj⟩) (fun q hq e=>by have h1:=H.out.2.2.2.1 q (.inr (.inr ⟨_,hq⟩));have h2:=H.out.2.2.2.2.2.1.far q e;omega)) (H.out.2.1.2.2 ⟨j,hj⟩) (H.out.2.2.1.2.2.2 ⟨j,hj⟩) (fun q hq=>H.out.2.2.2.1 q (.inr (.inr ⟨_,hq⟩))) (H.out.2.2.2.2.1.chg hc1 (fun e=>by have h2:=H.out.2.2.2.2.2.1.far rb e;omega)) ho1 (by rw [List.length_append];omega)
        have PP:=Lib.hid pp
        have HZ:=Lib.hid (And.intro ho1 (And.intro hp1 (And.intro hc1 hg1)))
        clear hrel ho1 hp1 hc1 hg1 pp hTl hkl
        obtain ⟨ka,hka⟩:∃ q,(k ⟨j,hj⟩).ptr=q:=⟨_,rfl⟩
        rw [hka] at hix PP
        clear hka
        go_wp2_with fail
        go_at_call 126
        refine PP.out.mono ?_
        rintro e w6 ⟨rfl,T2,hT2,A2,c2,ho2,hc2,hg2⟩
        have hs2:=hc2.size
        have u0:w6.cell? ⟨w.heap.size,0,none⟩=some (.int .i64 a):=(hc2.cell (p:=⟨w.heap.size,0,none⟩) (by show w.heap.size < _;omega) hwn).trans y0
        have u1:w6.cell? ⟨w.heap.size,1,none⟩=some (.int .i64 b):=(hc2.cell (p:=⟨w.heap.size,1,none⟩) (by show w.heap.size < _;omega) hwn).trans y1
        have u2:w6.cell? ⟨w.heap.size,2,none⟩=some (.int .i64 c):=(hc2.cell (p:=⟨w.heap.size,2,none⟩) (by show w.heap.size < _;omega) hwn).trans y2
        have u3:w6.cell? ⟨w.heap.size,3,none⟩=some (.int .i64 d):=(hc2.cell (p:=⟨w.heap.size,3,none⟩) (by show w.heap.size < _;omega) hwn).trans y3
        have HE:=Lib.hid (show ∃ A1 c1 T,OutS w6 o A1 c1 (L ++ T)∧T.Perm (mtS a b c d (NL ++ ks k (j+1)))∧Chg (OX o A) w w6∧(∀ z,gP A1 z→gP A z∨r+1≤z) from ⟨A2,c2,T ++ T2,by rw [← List.append_assoc];exact ho2,by
         rw [ks_step hj,← List.append_assoc,mtS_app]
         exact HZ.out.2.1.append hT2,HZ.out.2.2.1.trans hc2 (fun q hq=>by
         rcases hq with hq|hq
         ·exact .inl (.inl hq)
         ·exact (HZ.out.2.2.2 q hq).elim (fun e => .inl (.inr e)) (fun e => .inr (by omega))),fun q hq=>(hg2 q hq).elim (HZ.out.2.2.2 q) (fun e => .inr (by omega))⟩)
        clear ho2 hc2 hg2 hix y0 y1 y2 y3
        go_wp2_with fail
        go_roundw
        case rel=>exact ⟨j+1,by go_num,by omega,⟨by omega,u0,u1,u2,u3⟩,HE.out⟩
        case measure=>simp [intOf];omega
       ·obtain rfl:j=4:=by omega
        have hdj:decide (((4:Nat):Int) < 4)=false:=by decide
        have HE:=Lib.hid (show Post (.returned (.tuple #[])) wr by
         rw [← hPost,sh_node]
         exact ⟨rfl,T,hp1,A1,c1,ho1,hc1,fun q hq=>(hg1 q hq).elim .inl (fun e => .inr (by omega))⟩)
        clear hrel ho1 hp1 hc1 hg1
        go_wp2_with fail
        exact bodyPost_end (v := .tuple #[]) (by first|rfl|kernel_rfl) rfl HE.out
     ·intro s U' w1 left1 cnt1 hp hrg1 hlt1 hg1 hs1 hen1
      obtain ⟨hrg,A1,c1,T,ho1,hp1,hc1,hgA⟩:=hrel.out
      have hro1:¬ OX o A1 r:=fun e=>by
       rcases e with e|e
       ·omega
       ·rcases hgA _ e with e'|e'
        ·have:=HFO.out _ (.inr e');omega
        ·omega
      have hmo1:¬ OX o A1 m:=fun e=>by have:=ho1.far m e;omega
      have hwn:¬ OX o A1 w.heap.size:=fun e=>by
       rcases e with e|e
       ·omega
       ·rcases hgA _ e with e'|e'
        ·have:=HFO.out _ (.inr e');omega
        ·omega
      have hcr:Chg (fun j=>j=r) wr w1:=Chg.ofGrown hg1 (fun k hk=>by injection hk with hk;exact hk.symm)
      have hcw1:Chg (OX o A) w w1:=hc1.trans hcr (fun q e => .inr (by have e':q=r:=e;omega))
      have hO1:OutS w1 o A1 c1 (L ++ T):=ho1.chg hcr (fun q hq e=>hro1 (by rw [← show q=r from e];exact hq))
      have hRb1:Rb w1 rb a b c d:=H.out.2.2.2.2.1.chg hcw1 (fun e=>by have h2:=H.out.2.2.2.2.2.1.far rb e;have:=H.out.2.2.2.1 nb (.inl rfl);omega)
      have hLT:(L ++ T).length≤1000000:=by
       have h9:=hp1.length_eq
       have h8:=mtS_le a b c d NL
       rw [List.length_append] at h9
       have h7:=H.out.2.2.2.2.2.2
       rw [sh_node,List.length_append] at h7
       rw [List.length_append]
       omega
      have y0:w1.cell? ⟨w.heap.size,0,none⟩=some (.int .i64 a):=(hcr.cell (p:=⟨w.heap.size,0,none⟩) (by show w.heap.size < _;omega) (by show ¬ w.heap.size=r;omega)).trans y0
      have y1:w1.cell? ⟨w.heap.size,1,none⟩=some (.int .i64 b):=(hcr.cell (p:=⟨w.heap.size,1,none⟩) (by show w.heap.size < _;omega) (by show ¬ w.heap.size=r;omega)).trans y1
      have y2:w1.cell? ⟨w.heap.size,2,none⟩=some (.int .i64 c):=(hcr.cell (p:=⟨w.heap.size,2,none⟩) (by show w.heap.size < _;omega) (by show ¬ w.heap.size=r;omega)).trans y2
      have y3:w1.cell? ⟨w.heap.size,3,none⟩=some (.int .i64 d):=(hcr.cell (p:=⟨w.heap.size,3,none⟩) (by show w.heap.size < _;omega) (by show ¬ w.heap.size=r;omega)).trans y3
      have hsz1:r+1≤w1.heap.size:=by omega
      have pms:=fun (Y:World) (hY:Below w1.heap.size w1 Y)=>meets1_any rb a b c d s.a s.b s.c s.d Y (hRb1.keep hY)
      obtain ⟨mv,hmv⟩:∃ v,meetsB s.a s.b s.c s.d a b c d=v:=⟨_,rfl⟩
      rw [hmv] at pms
      have PMs:=Lib.hid pms
      have PO:=Lib.hid (fun (Y:World) (hY:Below w1.heap.size w1 Y)=>outS_any o c1 A1 (L ++ T) s Y (hO1.keep hY) hLT)
      have HZ:=Lib.hid (And.intro hO1 (And.intro hp1 (And.intro hcw1 (And.intro hgA (And.intro hrg1 (And.intro hp (And.intro hmv hrg.rg.left_eq)))))))
      have hwr1:wr.heap.size=w1.heap.size:=hs1.symm
      clear hO1 hp1 hcw1 hgA hrg1 hp hmv hrg hrel hRb1 pms hcr hc1 ho1 hg1 hs1 hLT
      cases mv with
      | false=>
       go_wp2_with (first
        | (go_at_call 94;refine (PMs.out _ q9l).mono ?_;rintro e w' ⟨rfl,hb⟩;obtain ⟨X3,rfl,hl3,hm3⟩:=later _ hb (Nat.le_refl _);clear hb;(try simp only [q9A,q9B,q9D] at hm3 hl3)))
       have hb3:Below w1.heap.size w1 X3.w:=q9l
       have hs3:=hb3.size
       have hrg3:=HZ.out.2.2.2.2.1.same (w':=X3.w) (hb3.block _ (by have:=HZ.out.2.2.2.2.1.rg.owns.lt;omega)) (hb3.block _ (by omega))
       have hm3:=hrg3.rg.left_eq
       have HE:=Lib.hid (show RgL X3.w z m r U' D left1 cnt1∧∃ A1 c1 T,OutS X3.w o A1 c1 (L ++ T)∧(T ++ mtS a b c d U').Perm (mtS a b c d NL)∧Chg (OX o A) w X3.w∧(∀ z,gP A1 z→gP A z∨r+1≤z) from ⟨hrg3,A1,c1,T,HZ.out.1.keep hb3,by
        have h9:=mtS_perm (a:=a) (b:=b) (c:=c) (d:=d) HZ.out.2.2.2.2.2.1
        rw [mtS_cons_false HZ.out.2.2.2.2.2.2.1] at h9
        exact (h9.symm.append_left T).trans HZ.out.2.1,HZ.out.2.2.1.trans (Chg.of (X:=fun _=>False) hb3) (fun _ e=>e.elim),HZ.out.2.2.2.1⟩)
       have hm0:=HZ.out.2.2.2.2.2.2.2
       clear hrg3 hb3
       go_wp2_with fail
       go_roundw
       case rel=>exact ⟨U',left1,cnt1,⟨by omega,by go_simp,by go_simp,by go_simp,by go_simp⟩,HE.out⟩
       case measure=>rw [hm3,hm0];exact hlt1
      | true=>
       go_wp2_with (first
        | (go_at_call 94;refine (PMs.out _ q9l).mono ?_;rintro e w' ⟨rfl,hb⟩;obtain ⟨X3,rfl,hl3,hm3⟩:=later _ hb (Nat.le_refl _);clear hb;(try simp only [q9A,q9B,q9D] at hm3 hl3)))
       go_at_call 127
       have hb3:Below w1.heap.size w1 X3.w:=q9l
       refine (PO.out _ hb3).mono ?_
       rintro e w6 ⟨rfl,A2,c2,ho2,hc2,hg2⟩
       have hs3:=hb3.size
       have hs6:=hc2.size
       have hmlt:=HZ.out.2.2.2.2.1.rg.owns.lt
       have hrg3:=HZ.out.2.2.2.2.1.same (w':=w6) ((hc2.block m (by omega) hmo1).trans (hb3.block _ (by omega))) ((hc2.block r (by omega) hro1).trans (hb3.block _ (by omega)))
       have hm3:=hrg3.rg.left_eq
       have u0:w6.cell? ⟨w.heap.size,0,none⟩=some (.int .i64 a):=((hc2.cell (p:=⟨w.heap.size,0,none⟩) (by show w.heap.size < _;omega) hwn).trans (hb3.cell (p:=⟨w.heap.size,0,none⟩) (by show w.heap.size < _;omega))).trans y0
       have u1:w6.cell? ⟨w.heap.size,1,none⟩=some (.int .i64 b):=((hc2.cell (p:=⟨w.heap.size,1,none⟩) (by show w.heap.size < _;omega) hwn).trans (hb3.cell (p:=⟨w.heap.size,1,none⟩) (by show w.heap.size < _;omega))).trans y1
       have u2:w6.cell? ⟨w.heap.size,2,none⟩=some (.int .i64 c):=((hc2.cell (p:=⟨w.heap.size,2,none⟩) (by show w.heap.size < _;omega) hwn).trans (hb3.cell (p:=⟨w.heap.size,2,none⟩) (by show w.heap.size < _;omega))).trans y2
       have u3:w6.cell? ⟨w.heap.size,3,none⟩=some (.int .i64 d):=((hc2.cell (p:=⟨w.heap.size,3,none⟩) (by show w.heap.size < _;omega) hwn).trans (hb3.cell (p:=⟨w.heap.size,3,none⟩) (by show w.heap.size < _;omega))).trans y3
       have HE:=Lib.hid (show RgL w6 z m r U' D left1 cnt1∧∃ A1 c1 T,OutS w6 o A1 c1 (L ++ T)∧(T ++ mtS a b c d U').Perm (mtS a b c d NL)∧Chg (OX o A) w w6∧(∀ z,gP A1 z→gP A z∨r+1≤z) from ⟨hrg3,A2,c2,T ++ [s],by rw [← List.append_assoc];exact ho2,by
        have h9:=mtS_perm (a:=a) (b:=b) (c:=c) (d:=d) HZ.out.2.2.2.2.2.1
        rw [mtS_cons_true HZ.out.2.2.2.2.2.2.1] at h9
        rw [List.append_assoc]
        exact (h9.symm.append_left T).trans HZ.out.2.1,(HZ.out.2.2.1.trans (Chg.of (X:=fun _=>False) hb3) (fun _ e=>e.elim)).trans hc2 (fun q hq=>by
        rcases hq with hq|hq
        ·exact .inl (.inl hq)
        ·exact (HZ.out.2.2.2.1 q hq).elim (fun e => .inl (.inr e)) (fun e => .inr (by omega))),fun q hq=>(hg2 q hq).elim (HZ.out.2.2.2.1 q) (fun e => .inr (by omega))⟩)
       have hm0:=HZ.out.2.2.2.2.2.2.2
       clear hrg3 hb3 ho2 hc2 hg2 y0 y1 y2 y3
       go_wp2_with fail
       go_roundw
       case rel=>exact ⟨U',left1,cnt1,⟨by omega,u0,u1,u2,u3⟩,HE.out⟩
       case measure=>rw [hm3,hm0];exact hlt1
end Go.Proofs.YthlijfligikciaaGreat
