/- A part of one proof: WtA NlA. No condition. -/
import Derived.Test.YthlijfligikciaaGreatY33
import Derived.Test.YthlijfligikciaaGreatY34
import Derived.Test.YthlijfligikciaaGreatY44
import Derived.Test.YthlijfligikciaaGreatY45
namespace Go.Proofs.YthlijfligikciaaGreat
open Go.RowKit Go.Maps
set_option linter.unusedSimpArgs false
set_option linter.unusedVariables false
set_option maxRecDepth 2000
theorem takeWhile_at {α:Type} (d:α) (p:α→Bool):∀ (L:List α) (k:Nat),k≤L.length→(∀ j,j < k→p (L.getD j d)=true)→(k < L.length→p (L.getD k d)=false)→L.take k=L.takeWhile p
 | [],k,hk,_,_=>by simp
 | x :: L,0,hk,_,h=>by
  have h9:p x=false:=h (by simp)
  simp [h9]
 | x :: L,k+1,hk,ha,h=>by
  have h9:p x=true:=ha 0 (by omega)
  have ih:=takeWhile_at d p L k (by simpa using hk) (fun j hj=>ha (j+1) (by omega)) (fun hl=>h (by simpa using hl))
  rw [List.takeWhile_cons_of_pos h9,← ih,List.take_succ_cons]
def WtoPost (C:Option Addr) (c n:Nat) (L:List Sn) (px py:Int) (w:World) (e:Ending) (w':World):Prop:=
 (∃ k,e = .returned (.slice C k c)∧k≤n∧L.take k=L.takeWhile (fun s=>decide (dstS px py s=0)))∧Below w.heap.size w w'
set_option maxHeartbeats 8000000 in
theorem without_any (n c:Nat) (C:Option Addr) (L:List Sn) (px py:Int) (w:World) (h:Sns w w.heap.size C L) (hn:L.length=n) (hc:n≤c) (hb:n≤1000000000):
  Calls Tryz.prog 16 #[.slice C n c, .agg #[.int .i64 px, .int .i64 py]] w (WtoPost C c n L px py w):=by
 have HA:=Lib.hid h
 have HN:=Lib.hid hn
 have HF:=Lib.hid (show ∀ k w',k≤n→(∀ j,j < k→dstS px py (L.getD j sn0)=0)→(k < n→dstS px py (L.getD k sn0)≠0)→Below w.heap.size w w'→WtoPost C c n L px py w (.returned (.slice C k c)) w' from fun k w' hk h1 h2 hb=>⟨⟨k,rfl,hk,takeWhile_at sn0 _ L k (by omega) (fun j hj=>decide_eq_true (h1 j hj)) (fun hl=>decide_eq_false (h2 (by omega)))⟩,hb⟩)
 generalize WtoPost C c n L px py w=Post at HF ⊢
 clear h hn
 go_enter Tryz.func16,Tryz.ntmps16
 go_wp2_with fail
 go_loopw [5] (fun i wr=>∃ k:Nat,(k≤n∧Hid (∀ j,j < k→dstS px py (L.getD j sn0)=0))∧i = .int .i64 k∧Below w.heap.size w wr∧(wr.cell? ⟨w.heap.size,0,none⟩=some (.int .i64 px)∧wr.cell? ⟨w.heap.size,1,none⟩=some (.int .i64 py))∧w.heap.size < wr.heap.size) (fun i _=>n - (intOf i).toNat)
 case atStart=>exact ⟨0,⟨Nat.zero_le _,fun j hj=>absurd hj (by omega)⟩,rfl,q9o,⟨by go_simp,by go_simp⟩,by simp⟩
 case round=>
  obtain ⟨k,⟨hk,hall⟩,rfl,hb,⟨p0,p1⟩,hsz⟩:=hrel
  have HB:=Lib.hid hb
  by_cases hlt:k < n
  ·obtain ⟨b,o,hA,hB,c0,c1',c2,c3,c4,c5⟩:=sns_at (HA.out.keep hb) (show k < L.length by rw [HN.out];exact hlt)
   subst hA
   clear hb
   obtain ⟨x,hx⟩:∃ x,L.getD k sn0=x:=⟨_,rfl⟩
   rw [hx] at c0 c1' c2 c3 c4 c5
   have PD:=Lib.hid (fun (Y:World)=>dist_any x.a x.b x.c x.d px py Y)
   have hdx:dstS px py x=distI x.a x.b x.c x.d px py:=rfl
   obtain ⟨dd,hdd⟩:∃ d,distI x.a x.b x.c x.d px py=d:=⟨_,rfl⟩
   rw [hdd] at PD hdx
   have hbl:b < wr.heap.size:=cell_lt c0
   by_cases h0:dd=0
   ·subst h0
    have hnx:∀ j,j < k+1→dstS px py (L.getD j sn0)=0:=fun j hj=>by
     rcases Nat.lt_or_eq_of_le (Nat.le_of_lt_succ hj) with h|rfl
     ·exact hall.out j h
     ·rw [hx];exact hdx
    have HNX:=Lib.hid hnx
    clear hnx hdx hdd hx
    go_wp2_with fail
    (refine wp_region_later (wr.heap.size) (by kernel_rfl) (by kernel_rfl) (by go_size) ?_;(repeat (go_big_quiet_step ((first|(go_at_call 46;exact Later.call _ (Nat.le_trans (by go_size) (Later.is _).size) (PD.out _))))));refine wpQuiet_nil ?_;intro Xq hlXq hmXq)
    have hbq:Below wr.heap.size wr Xq.w:=q9l
    have HBq:=Lib.hid (show Below w.heap.size w Xq.w from HB.out.trans (hbq.mono HB.out.size))
    have p0':Xq.w.cell? ⟨w.heap.size,0,none⟩=some (.int .i64 px):=(hbq.cell (p:=⟨w.heap.size,0,none⟩) hsz).trans p0
    have p1':Xq.w.cell? ⟨w.heap.size,1,none⟩=some (.int .i64 py):=(hbq.cell (p:=⟨w.heap.size,1,none⟩) hsz).trans p1
    have hszq:w.heap.size < Xq.w.heap.size:=Nat.lt_of_lt_of_le hsz hbq.size
    clear hbq
    go_wp2_with fail
    go_roundw
    case rel=>exact ⟨k+1,⟨by omega,HNX.out⟩,by go_num,HBq.out,⟨p0',p1'⟩,hszq⟩
    case measure=>simp [intOf];omega
   ·have hdz:(dd == 0)=false:=by simpa using h0
    have hno:k < n→dstS px py (L.getD k sn0)≠0:=fun _ e=>h0 (by rw [hx,hdx] at e;exact e)
    have HNO:=Lib.hid hno
    clear hno hdx hdd hx h0
    go_wp2_with fail
    (refine wp_region_later (wr.heap.size) (by kernel_rfl) (by kernel_rfl) (by go_size) ?_;(repeat (go_big_quiet_step ((first|(go_at_call 46;exact Later.call _ (Nat.le_trans (by go_size) (Later.is _).size) (PD.out _))))));refine wpQuiet_nil ?_;intro Xq hlXq hmXq)
    have hbq:Below wr.heap.size wr Xq.w:=q9l
    have HBq:=Lib.hid (show Below w.heap.size w Xq.w from HB.out.trans (hbq.mono HB.out.size))
    clear hbq
    go_wp2_with fail
    exact HF.out k Xq.w hk hall.out HNO.out HBq.out
  ·obtain rfl:k=n:=by omega
   have hdj:decide ((k:Int) < (k:Int))=false:=decide_eq_false (by omega)
   clear hb
   go_wp2_with fail
   (refine wp_region_later (wr.heap.size) (by kernel_rfl) (by kernel_rfl) (by go_size) ?_;(repeat (go_big_quiet_step (fail)));refine wpQuiet_nil ?_;intro Xq hlXq hmXq)
   have hbq:Below wr.heap.size wr Xq.w:=q9l
   have HBq:=Lib.hid (show Below w.heap.size w Xq.w from HB.out.trans (hbq.mono HB.out.size))
   clear hbq
   go_wp2_with fail
   exact HF.out k Xq.w (Nat.le_refl _) hall.out (fun e=>absurd e (Nat.lt_irrefl _)) HBq.out
end Go.Proofs.YthlijfligikciaaGreat
namespace Go.Proofs.YthlijfligikciaaGreat
open Go.RowKit Go.Maps
set_option linter.unusedSimpArgs false
set_option linter.unusedVariables false
theorem sorted_one {L M:List En} (h:L.Pairwise leE) (h':M.Pairwise leE) (hp:L.Perm M):L=M:=by
 induction L generalizing M with
 | nil=>exact (List.nil_perm.1 hp).symm
 | cons a L ih=>
  cases M with
  | nil=>exact absurd hp.length_eq (by simp)
  | cons b M=>
   rw [List.pairwise_cons] at h h'
   have hab:a=b:=by
    rcases List.mem_cons.1 (hp.mem_iff.1 (List.mem_cons_self ..)) with e|e
    ·exact e
    ·rcases List.mem_cons.1 (hp.mem_iff.2 (List.mem_cons_self ..)) with e'|e'
     ·exact e'.symm
     ·exact leE_antisymm (h.1 b e') (h'.1 a e)
   subst hab
   rw [ih h.2 h'.2 ((List.perm_cons _).1 hp)]
theorem rising_one {L M:List Int} (h:L.Pairwise (· < ·)) (h':M.Pairwise (· < ·)) (hm:∀ z,z ∈ L↔z ∈ M):L=M:=by
 induction L generalizing M with
 | nil=>
  cases M with
  | nil=>rfl
  | cons b M=>exact absurd ((hm b).2 (List.mem_cons_self ..)) (by simp)
 | cons a L ih=>
  cases M with
  | nil=>exact absurd ((hm a).1 (List.mem_cons_self ..)) (by simp)
  | cons b M=>
   rw [List.pairwise_cons] at h h'
   have hab:a=b:=by
    rcases List.mem_cons.1 ((hm a).1 (List.mem_cons_self ..)) with e|e
    ·exact e
    ·rcases List.mem_cons.1 ((hm b).2 (List.mem_cons_self ..)) with e'|e'
     ·exact e'.symm
     ·have h1:=h.1 b e'
      have h2:=h'.1 a e
      omega
   subst hab
   rw [ih h.2 h'.2 (fun z=>by
    constructor
    ·intro hz
     rcases List.mem_cons.1 ((hm z).1 (List.mem_cons_of_mem _ hz)) with e|e
     ·have:=h.1 z hz;omega
     ·exact e
    ·intro hz
     rcases List.mem_cons.1 ((hm z).2 (List.mem_cons_of_mem _ hz)) with e|e
     ·have:=h'.1 z hz;omega
     ·exact e)]
theorem lev_one {L:List Rl} {r t:Int} {j:Nat} {xs ys:List Int} (h:LevL L r t j xs) (h':LevL L r t j ys) (hx:xs.Pairwise (· < ·)) (hy:ys.Pairwise (· < ·)):xs=ys:=
 rising_one hx hy (fun z=>(h z).trans (h' z).symm)
def k0E (e:En):Bool:=decide (e.key=0)
theorem take_zero {L:List En} (h:L.Pairwise leE) (hn:∀ e ∈ L,0≤e.key):L.filter k0E=L.takeWhile k0E:=by
 induction L with
 | nil=>rfl
 | cons a L ih=>
  rw [List.pairwise_cons] at h
  have ih:=ih h.2 (fun e he=>hn e (List.mem_cons_of_mem _ he))
  by_cases h0:a.key=0
  ·have hk:k0E a=true:=decide_eq_true h0
   rw [List.filter_cons_of_pos hk,List.takeWhile_cons_of_pos hk,ih]
  ·have hk:k0E a=false:=decide_eq_false h0
   rw [List.filter_cons_of_neg (by rw [hk];simp),List.takeWhile_cons_of_neg (by rw [hk];simp),List.filter_eq_nil_iff]
   intro e he hke
   have h1:e.key=0:=of_decide_eq_true hke
   have h2:=h.1 e he
   have h3:=hn a (List.mem_cons_self ..)
   unfold leE ltE at h2
   omega
theorem map_take {px py:Int} {f:En→Sn}:∀ {L:List En},(∀ e ∈ L,dstS px py (f e)=e.key)→(L.map f).takeWhile (fun s=>decide (dstS px py s=0))=(L.takeWhile k0E).map f
 | [],_=>rfl
 | a :: L,h=>by
  have ih:=map_take (px:=px) (py:=py) (f:=f) (L:=L) (fun e he=>h e (List.mem_cons_of_mem _ he))
  have ha:=h a (List.mem_cons_self ..)
  by_cases h0:a.key=0
  ·have hk:k0E a=true:=decide_eq_true h0
   rw [List.map_cons,List.takeWhile_cons_of_pos (by rw [ha];exact hk),List.takeWhile_cons_of_pos hk,ih,List.map_cons]
  ·have hk:k0E a=false:=decide_eq_false h0
   rw [List.map_cons,List.takeWhile_cons_of_neg (by rw [ha];simpa [k0E] using h0),List.takeWhile_cons_of_neg (by rw [hk];simp),List.map_nil]
def k0P (p:Int × Sn):Bool:=decide (p.1=0)
theorem ent_filter:∀ P:List (Int × Sn),entP (P.filter k0P)=(entP P).filter k0E
 | []=>rfl
 | p :: P=>by
  have ih:=ent_filter P
  unfold entP at ih ⊢
  by_cases h0:p.1=0
  ·rw [List.filter_cons_of_pos (show k0P p=true from decide_eq_true h0),List.map_cons,List.map_cons,List.filter_cons_of_pos (show k0E ⟨p.1,0,p.2.id⟩=true from decide_eq_true h0),ih]
  ·rw [List.filter_cons_of_neg (show ¬ k0P p=true by simpa [k0P] using h0),List.map_cons,List.filter_cons_of_neg (show ¬ k0E ⟨p.1,0,p.2.id⟩=true by simpa [k0E] using h0),ih]
theorem near_take {px py:Int} {Pw Pn:List (Int × Sn)} {Lw Ln:List En} (hk:∀ p ∈ Pn,p.1=dstS px py p.2∧0≤p.1) (hp:Pw.Perm (Pn.filter k0P)) (hn:(Pn.map (fun p=>p.2.id)).Nodup) (hnw:(Pw.map (fun p=>p.2.id)).Nodup)
  (hw:Lw.Perm (entP Pw)) (hws:Lw.Pairwise leE) (hl:Ln.Perm (entP Pn)) (hls:Ln.Pairwise leE):
  Lw.map (snE (lookP Pw))=(Ln.map (snE (lookP Pn))).takeWhile (fun s=>decide (dstS px py s=0)):=by
 have hmem:∀ e ∈ Ln,∃ p ∈ Pn,e=⟨p.1,0,p.2.id⟩:=fun e he=>by
  obtain ⟨p,hp,rfl⟩:=List.mem_map.1 (hl.mem_iff.1 he)
  exact ⟨p,hp,rfl⟩
 have hat:∀ p ∈ Pn,snE (lookP Pn) ⟨p.1,0,p.2.id⟩=p.2:=fun p hp=>by unfold snE;rw [lookP_at hn hp];rfl
 rw [map_take (fun e he=>by obtain ⟨p,hp,rfl⟩:=hmem e he;rw [hat p hp];exact (hk p hp).1.symm)]
 have hL:Lw=Ln.takeWhile k0E:=by
  rw [← take_zero hls (fun e he=>by obtain ⟨p,hp,rfl⟩:=hmem e he;exact (hk p hp).2)]
  refine sorted_one hws (hls.filter _) ?_
  refine hw.trans (((hp.map _:(entP Pw).Perm (entP (Pn.filter k0P)))).trans ?_)
  show (entP (Pn.filter k0P)).Perm _
  rw [ent_filter]
  exact (hl.filter _).symm
 rw [← hL]
 refine List.map_congr_left (fun e he=>?_)
 obtain ⟨p,hp9,rfl⟩:=List.mem_map.1 (hw.mem_iff.1 he)
 have hpn:p ∈ Pn:=(List.mem_filter.1 (hp.mem_iff.1 hp9)).1
 rw [hat p hpn]
 unfold snE
 rw [lookP_at hnw hp9]
 rfl
theorem gap_nonneg (n a b:Int):0≤gapI n a b:=by unfold gapI;split <;> (try split) <;> omega
theorem dist_nonneg (a b c d x y:Int):0≤distI a b c d x y:=by
 unfold distI
 split
 ·have h1:=Int.mul_nonneg (gap_nonneg x a c) (gap_nonneg x a c)
  have h2:=Int.mul_nonneg (gap_nonneg y b d) (gap_nonneg y b d)
  omega
 ·exact Int.le_refl _
theorem low_iff {a p l:Int}:low a l≤p↔a / sd l≤p / sd l:=by
 unfold low
 exact (Int.le_ediv_iff_mul_le (sd_pos l)).symm
theorem high_iff {a p l:Int}:a≤high p l↔a / sd l≤p / sd l:=by
 unfold high
 have h1:=Int.ediv_lt_iff_lt_mul (a:=a) (b:=p / sd l+1) (sd_pos l)
 have e:(p / sd l+1)*sd l=p / sd l*sd l+sd l:=by rw [Int.add_mul,Int.one_mul]
 rw [e] at h1
 omega
theorem snap_rt {a b c d l:Int} (h0:0≤l) (h1:l≤16) (h:rightB a b c d=true):rightB (low a l) (low b l) (high c l) (high d l)=true:=by
 obtain ⟨a0,a1,b0,b1,c0,c1,d0,d1,hac,hbd⟩:=right_iff.1 h
 have ga:=grid_lt h0 h1 (div_grid h0 h1 a0 a1).1 (div_grid h0 h1 a0 a1).2
 have gb:=grid_lt h0 h1 (div_grid h0 h1 b0 b1).1 (div_grid h0 h1 b0 b1).2
 have gc:=grid_lt h0 h1 (div_grid h0 h1 c0 c1).1 (div_grid h0 h1 c0 c1).2
 have gd:=grid_lt h0 h1 (div_grid h0 h1 d0 d1).1 (div_grid h0 h1 d0 d1).2
 have ea:=(div_iff (n:=a) (x:=a / sd l) (sd_pos l)).2 rfl
 have eb:=(div_iff (n:=b) (x:=b / sd l) (sd_pos l)).2 rfl
 have ec:=(div_iff (n:=c) (x:=c / sd l) (sd_pos l)).2 rfl
 have ed:=(div_iff (n:=d) (x:=d / sd l) (sd_pos l)).2 rfl
 have:=sd_pos l
 unfold low high
 exact right_iff.2 ⟨by omega,by omega,by omega,by omega,by omega,by omega,by omega,by omega,by omega,by omega⟩
theorem in_dist {L:List Rl} {role tier:Int} {g:Gr} {px py z:Int} {r:Rc} (hf:fitsB px py=true) (h0:0≤min z g.zoom) (h1:min z g.zoom≤16) (hk:kpR L role tier g z r=true):inW px py (min z g.zoom) r.x r.y=decide (dstS px py (snR L role tier g r)=0):=by
 unfold kpR seeR zmR at hk
 simp only [Bool.and_eq_true,beq_iff_eq] at hk
 obtain ⟨hs,hz⟩:=hk
 have hl:seeL L role tier g r.x r.y r.label=min z g.zoom:=by unfold seeL;rw [hz]
 have hfr:fitsB r.x r.y=true:=by
  unfold seeB at hs
  simp only [Bool.and_eq_true] at hs
  exact hs.1.2
 unfold snR dstS
 simp only [hl]
 obtain ⟨l,hle⟩:∃ l,min z g.zoom=l:=⟨_,rfl⟩
 rw [hle] at h0 h1 ⊢
 have hR1:=(snap_pt hf h0 h1).2
 have hR2:=(snap_pt hfr h0 h1).2
 have hd:=dist_zero hR2 hf
 have e9:(distI (low r.x l) (low r.y l) (high r.x l) (high r.y l) px py == 0)=decide (distI (low r.x l) (low r.y l) (high r.x l) (high r.y l) px py=0):=rfl
 rw [e9] at hd
 show inW px py l r.x r.y=decide (distI (low r.x l) (low r.y l) (high r.x l) (high r.y l) px py=0)
 rw [hd]
 have hi:∀ u v:Bool,(u=true↔v=true)→u=v:=fun u v h=>by cases u <;> cases v <;> simp_all
 refine hi _ _ ?_
 unfold inW
 rw [has_iff,has_iff,low_iff,high_iff,low_iff,high_iff,low_iff,high_iff,low_iff,high_iff]
 constructor
 ·rintro ⟨_,a,b,c,d⟩;exact ⟨hR2,b,a,d,c⟩
 ·rintro ⟨_,a,b,c,d⟩;exact ⟨hR1,b,a,d,c⟩
theorem met_dist {L:List Rl} {role tier:Int} {g:Gr} {px py z:Int} {s:Sh} (hf:fitsB px py=true) (h0:0≤min z g.zoom) (h1:min z g.zoom≤16) (hk:kpS L role tier g z s=true):metW px py (min z g.zoom) s=decide (dstS px py (snS L role tier g s)=0):=by
 unfold kpS seeS zmS at hk
 simp only [Bool.and_eq_true,beq_iff_eq] at hk
 obtain ⟨hs,hz⟩:=hk
 have hl:scL L role tier g s.label s.a s.b s.c s.d=min z g.zoom:=by unfold scL;rw [hz]
 have hfr:rightB s.a s.b s.c s.d=true:=by
  unfold scB at hs
  simp only [Bool.and_eq_true] at hs
  exact hs.1.2
 unfold snS dstS
 simp only [hl]
 obtain ⟨l,hle⟩:∃ l,min z g.zoom=l:=⟨_,rfl⟩
 rw [hle] at h0 h1 ⊢
 have hsn:snapB s.a s.b s.c s.d l=true:=by unfold snapB;rw [lvl_iff.2 ⟨h0,h1⟩,hfr];rfl
 unfold sn1 sn2 sn3 sn4
 rw [hsn]
 simp only [sel,if_true]
 have hR1:=(snap_pt hf h0 h1).2
 have hR2:=snap_rt h0 h1 hfr
 have hd:=dist_zero hR2 hf
 have e9:(distI (low s.a l) (low s.b l) (high s.c l) (high s.d l) px py == 0)=decide (distI (low s.a l) (low s.b l) (high s.c l) (high s.d l) px py=0):=rfl
 rw [e9] at hd
 rw [hd]
 have hi:∀ u v:Bool,(u=true↔v=true)→u=v:=fun u v h=>by cases u <;> cases v <;> simp_all
 refine hi _ _ ?_
 unfold metW
 rw [meets_iff,has_iff,low_iff,high_iff,low_iff,high_iff,low_iff,high_iff,low_iff,high_iff]
 constructor
 ·rintro ⟨_,_,a,b,c,d⟩;exact ⟨hR2,a,b,c,d⟩
 ·rintro ⟨_,a,b,c,d⟩;exact ⟨hfr,hR1,a,b,c,d⟩
theorem list_take {α:Type} {i k:α→Bool} {s:α→Sn} {px py:Int} (h:∀ r,k r=true→i r=decide (dstS px py (s r)=0)):∀ R:List α,((R.filter i).filter k).map (fun r=>((0:Int),s r))=((R.filter k).map (fun r=>(dstS px py (s r),s r))).filter k0P
 | []=>rfl
 | r :: R=>by
  have ih:=list_take h R
  cases hk:k r with
  | false=>
   rw [List.filter_cons_of_neg (l:=R) (p:=k) (by rw [hk];simp)]
   cases hi:i r with
   | false=>rw [List.filter_cons_of_neg (by rw [hi];simp)];exact ih
   | true=>rw [List.filter_cons_of_pos hi,List.filter_cons_of_neg (by rw [hk];simp)];exact ih
  | true=>
   have h9:=h r hk
   rw [List.filter_cons_of_pos (l:=R) (p:=k) hk,List.map_cons]
   by_cases h0:dstS px py (s r)=0
   ·have hi:i r=true:=by rw [h9];exact decide_eq_true h0
    rw [List.filter_cons_of_pos hi,List.filter_cons_of_pos hk,List.map_cons,List.filter_cons_of_pos (show k0P (dstS px py (s r),s r)=true from decide_eq_true h0),ih,h0]
   ·have hi:i r=false:=by rw [h9];exact decide_eq_false h0
    rw [List.filter_cons_of_neg (by rw [hi];simp),List.filter_cons_of_neg (show ¬ k0P (dstS px py (s r),s r)=true by simpa [k0P] using h0),ih]
theorem allQ_take {gz:Int} {QW QN:Int→List (Int × Sn)}:∀ {xs:List Int},(∀ z ∈ xs,min z gz≠0→QW z=(QN z).filter k0P)→allQ gz QW xs=(allQ gz QN xs).filter k0P
 | [],_=>rfl
 | z :: xs,h=>by
  have ih:=allQ_take (gz:=gz) (QW:=QW) (QN:=QN) (xs:=xs) (fun u hu=>h u (List.mem_cons_of_mem _ hu))
  unfold allQ at ih ⊢
  rw [List.flatMap_cons,List.flatMap_cons,List.filter_append,ih]
  split
  ·rfl
  ·rename_i h0
   rw [h z (List.mem_cons_self ..) h0]
end Go.Proofs.YthlijfligikciaaGreat
