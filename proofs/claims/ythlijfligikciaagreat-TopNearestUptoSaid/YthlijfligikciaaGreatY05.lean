/- A part of one proof: TpG TpH. No condition. -/
import Derived.Test.YthlijfligikciaaGreatY04
import Derived.Test.YthlijfligikciaaGreatY01
import Derived.Laws.OwnMore
import Derived.IntWalk
import Derived.Laws.StructEq
import Derived.BigQuiet
namespace Go.Proofs.YthlijfligikciaaGreat
open Go.RowKit
set_option linter.unusedSimpArgs false
set_option linter.unusedVariables false
set_option maxRecDepth 2000
def Ints (w:World) (B:Nat) (A:Option Addr) (L:List Int):Prop:=0 < L.length→∃ b o,A=some ⟨b,o,none⟩∧b < B∧∀ i,i < L.length→w.cell? ⟨b,o+i,none⟩=some (.int .i64 (L.getD i 0))
theorem Ints.keep {w w':World} {B:Nat} {A:Option Addr} {L:List Int} (h:Ints w B A L) (hb:Below B w w'):Ints w' B A L:=fun hn=>by
 obtain ⟨b,o,rfl,hlt,hc⟩:=h hn
 exact ⟨b,o,rfl,hlt,fun i hi=>(hb.cell (p:=⟨b,o+i,none⟩) hlt).trans (hc i hi)⟩
theorem Ints.more {w:World} {B B':Nat} {A:Option Addr} {L:List Int} (h:Ints w B A L) (hb:B≤B'):Ints w B' A L:=fun hn=>by
 obtain ⟨b,o,rfl,hlt,hc⟩:=h hn
 exact ⟨b,o,rfl,Nat.lt_of_lt_of_le hlt hb,hc⟩
theorem ints_own {w:World} {base n c:Nat} {e:TypeId} {A:Option Addr} {L:List Int} (h:w.ownsRow base e 1 (.slice A n c) n (nC L)):Ints w w.heap.size A L:=fun hp=>by
 have hlen:L.length=n:=by have:=h.1;simpa [nC] using this
 obtain ⟨g,cap,hv,_,hlt⟩:=h.form (by omega)
 have hA:A=some ⟨g,0,none⟩:=by injection hv
 subst hA
 refine ⟨g,0,rfl,hlt,fun i hi=>?_⟩
 have a1:=h.cells (g:=g) rfl i (.int .i64 (L.getD i 0)) (by simp [nC,List.getD,hi])
 rw [Addr.add_lit] at a1
 exact a1
structure Sp where
 fr:Int
 to:Int
 zoom:Int
def sp0:Sp:=⟨0,0,0⟩
def spV (L:List Sp):List Value:=L.flatMap fun s=>[.int .i64 s.fr, .int .i64 s.to, .int .i64 s.zoom]
theorem spV_snoc (L:List Sp) (s:Sp):spV (L ++ [s])=spV L ++ [.int .i64 s.fr, .int .i64 s.to, .int .i64 s.zoom]:=by simp [spV]
theorem spV_len (L:List Sp):(spV L).length=L.length*3:=by
 induction L with
 | nil=>rfl
 | cons s L ih=>simp [spV] at ih ⊢;omega
def stepRow (l:List Rl) (xs:List Int) (y:Int) (out:List Sp) (i:Nat):List Sp:=
 if zoomF l (xs.getD i 0) y=0 then out else
 match out.getLast? with
 | none=>out ++ [⟨xs.getD i 0,xs.getD (i+1) 0 - 1,zoomF l (xs.getD i 0) y⟩]
 | some s=>if s.zoom=zoomF l (xs.getD i 0) y∧s.to+1=xs.getD i 0 then out.dropLast ++ [⟨s.fr,xs.getD (i+1) 0 - 1,s.zoom⟩] else out ++ [⟨xs.getD i 0,xs.getD (i+1) 0 - 1,zoomF l (xs.getD i 0) y⟩]
def rowN (l:List Rl) (xs:List Int) (y:Int):Nat→List Sp
 | 0=>[]
 | i+1=>stepRow l xs y (rowN l xs y i) i
def rowP (l:List Rl) (xs:List Int) (y:Int):List Sp:=rowN l xs y (xs.length - 1)
theorem step_len (l:List Rl) (xs:List Int) (y:Int) (out:List Sp) (i:Nat):(stepRow l xs y out i).length≤out.length+1:=by
 unfold stepRow
 split
 ·omega
 ·split
  ·simp
  ·split
   ·simp
   ·simp
theorem rowN_len (l:List Rl) (xs:List Int) (y:Int):∀ i,(rowN l xs y i).length≤i
 | 0=>Nat.le_refl _
 | i+1=>Nat.le_trans (step_len _ _ _ _ _) (Nat.succ_le_succ (rowN_len l xs y i))
theorem getD_rng {xs:List Int} (h:∀ x ∈ xs,0≤x∧x≤65536) (i:Nat):0≤xs.getD i 0∧xs.getD i 0≤65536:=by
 by_cases hi:i < xs.length
 ·rw [show xs.getD i 0=xs[i] by simp [List.getD,List.getElem?_eq_getElem hi]]
  exact h _ (List.getElem_mem _)
 ·rw [show xs.getD i 0=0 by simp [List.getD,List.getElem?_eq_none (Nat.le_of_not_lt hi)]]
  omega
theorem rowN_to {l:List Rl} {xs:List Int} {y:Int} (h:∀ x ∈ xs,0≤x∧x≤65536):∀ i,∀ s ∈ rowN l xs y i,-1≤s.to∧s.to≤65535
 | 0=>fun s hs=>by cases hs
 | i+1=>fun s hs=>by
  have ih:=rowN_to (l:=l) (y:=y) h i
  have hr:=getD_rng h (i+1)
  unfold rowN stepRow at hs
  split at hs
  ·exact ih s hs
  ·split at hs
   ·rcases List.mem_append.1 hs with hs|hs
    ·exact ih s hs
    ·obtain rfl:=List.mem_singleton.1 hs
     simp only
     omega
   ·split at hs
    ·rcases List.mem_append.1 hs with hs|hs
     ·exact ih s (List.dropLast_subset _ hs)
     ·obtain rfl:=List.mem_singleton.1 hs
      simp only
      omega
    ·rcases List.mem_append.1 hs with hs|hs
     ·exact ih s hs
     ·obtain rfl:=List.mem_singleton.1 hs
      simp only
      omega
theorem getLast_snoc (L:List Sp) (s:Sp):(L ++ [s]).getLast? = some s:=by simp
theorem row_zero {l:List Rl} {xs:List Int} {y:Int} {out:List Sp} {i:Nat} (h:zoomF l (xs.getD i 0) y=0):stepRow l xs y out i=out:=by unfold stepRow;rw [if_pos h]
theorem row_nil {l:List Rl} {xs:List Int} {y:Int} {i:Nat} (h:zoomF l (xs.getD i 0) y≠0):stepRow l xs y [] i=[⟨xs.getD i 0,xs.getD (i+1) 0 - 1,zoomF l (xs.getD i 0) y⟩]:=by unfold stepRow;rw [if_neg h];rfl
theorem row_join {l:List Rl} {xs:List Int} {y:Int} {out:List Sp} {s:Sp} {i:Nat} (h:zoomF l (xs.getD i 0) y≠0) (h1:s.zoom=zoomF l (xs.getD i 0) y) (h2:s.to+1=xs.getD i 0):stepRow l xs y (out ++ [s]) i=out ++ [⟨s.fr,xs.getD (i+1) 0 - 1,s.zoom⟩]:=by
 unfold stepRow
 rw [if_neg h,getLast_snoc]
 simp only
 rw [if_pos ⟨h1,h2⟩,List.dropLast_concat]
theorem row_more {l:List Rl} {xs:List Int} {y:Int} {out:List Sp} {s:Sp} {i:Nat} (h:zoomF l (xs.getD i 0) y≠0) (h1:¬ (s.zoom=zoomF l (xs.getD i 0) y∧s.to+1=xs.getD i 0)):stepRow l xs y (out ++ [s]) i=out ++ [s] ++ [⟨xs.getD i 0,xs.getD (i+1) 0 - 1,zoomF l (xs.getD i 0) y⟩]:=by
 unfold stepRow
 rw [if_neg h,getLast_snoc]
 simp only
 rw [if_neg h1]
theorem cells_three_new (w:World) (a b c:Int) (t:TypeId):∀ j u,([.int .i64 a, .int .i64 b, .int .i64 c]:List Value)[j]? = some u→(w.alloc (.cells #[.int .i64 a, .int .i64 b, .int .i64 c] t)).cell? ((⟨w.heap.size,0,none⟩:Addr).add j)=some u:=by
 intro j u hj
 match j,hj with
 | 0,hj|1,hj|2,hj=>simp at hj;subst hj;simp [Addr.add]
theorem last_cells {w:World} {base g n c:Nat} {e:TypeId} {L:List Sp} {s:Sp} (h:w.ownsRow base e 3 (.slice (some ⟨g,0,none⟩) (n+1) c) (n+1) (spV (L ++ [s]))) (hn:L.length=n):
  w.cell? ⟨g,n*3,none⟩=some (.int .i64 s.fr)∧w.cell? ⟨g,n*3+1,none⟩=some (.int .i64 s.to)∧w.cell? ⟨g,n*3+2,none⟩=some (.int .i64 s.zoom):=by
 subst hn
 have hl:=spV_len L
 refine ⟨?_,?_,?_⟩
 ·rw [h.cellAt _ (by omega),spV_snoc,List.getElem?_append_right (by omega),hl];simp
 ·rw [h.cellAt _ (by omega),spV_snoc,List.getElem?_append_right (by omega),hl];simp
 ·rw [h.cellAt _ (by omega),spV_snoc,List.getElem?_append_right (by omega),hl];simp
theorem last_set {w:World} {base g n c:Nat} {e:TypeId} {L:List Sp} {s:Sp} (h:w.ownsRow base e 3 (.slice (some ⟨g,0,none⟩) (n+1) c) (n+1) (spV (L ++ [s]))) (hn:L.length=n) (v:Int):
  (w.setCell ⟨g,n*3+1,none⟩ (.int .i64 v)).ownsRow base e 3 (.slice (some ⟨g,0,none⟩) (n+1) c) (n+1) (spV (L ++ [⟨s.fr,v,s.zoom⟩])):=by
 subst hn
 have h1:=(h.stored (L.length*3+1) (.int .i64 v)).1
 have hl:=spV_len L
 rw [spV_snoc,List.set_append_right _ _ (by omega),hl] at h1
 rw [spV_snoc]
 simpa using h1
set_option maxHeartbeats 16000000 in
theorem grow_any (n c nx cx:Nat) (A D:Option Addr) (L:List Rl) (P:Nat→Option Addr × Nat) (xs:List Int) (y:Int) (w:World) (h:Rls w w.heap.size A L P) (hn:L.length=n) (hn1:n≤1000000) (hbx:∀ i,i < n→(L.getD i rl0).boxes.length≤9223372036854775806) (hx:Ints w w.heap.size D xs) (hxn:xs.length=nx) (hx1:nx≤4000000) (hxr:∀ x ∈ xs,0≤x∧x≤65536):
  Calls Tryz.prog 143 #[.slice A n c, .slice D nx cx, .int .i64 y] w fun e w'=>(∃ C cc,e = .returned (.slice C (rowP L xs y).length cc)∧w'.ownsRow w.heap.size 209 3 (.slice C (rowP L xs y).length cc) (rowP L xs y).length (spV (rowP L xs y)))∧Below w.heap.size w w':=by
 obtain ⟨i0,hi,hz0,hz1,hz2⟩:=info_parts (show (Tryz.prog.info? 209).map (fun i=>(i.zero,i.size,i.bytes))=some (some (.agg #[.int .i64 0, .int .i64 0, .int .i64 0]),3,24) by kernel_rfl)
 have P1:=Lib.hid (fun (x:Int) (Y:World) (hY:Below w.heap.size w Y)=>gzoom_any n c A L P x y Y ((h.keep hY).more hY.size) hn (by omega) hbx)
 have HX:=Lib.hid hx
 have HXN:=Lib.hid hxn
 have HXR:=Lib.hid hxr
 have HPost:=Lib.hid (show ∀ (C:Option Addr) (cc m:Nat) (M:List Sp) (w':World),M=rowP L xs y→M.length=m→w'.ownsRow w.heap.size 209 3 (.slice C m cc) m (spV M)→Below w.heap.size w w'→(∃ C' cc',Ending.returned (.slice C m cc) = .returned (.slice C' (rowP L xs y).length cc')∧w'.ownsRow w.heap.size 209 3 (.slice C' (rowP L xs y).length cc') (rowP L xs y).length (spV (rowP L xs y)))∧Below w.heap.size w w' from fun C cc m M w' e e2 h1 h2=>by subst e e2;exact ⟨⟨C,cc,rfl,h1⟩,h2⟩)
 clear h hn hbx hx hxn hxr
 go_enter Tryz.func143,Tryz.ntmps143
 go_wp2
 go_loopw [7,8] (fun al i wr=>∃ (k:Nat) (C:Option Addr) (cc m:Nat),((k≤nx - 1∧m≤k)∧Hid (wr.ownsRow w.heap.size 209 3 (.slice C m cc) m (spV (rowN L xs y k))∧(rowN L xs y k).length=m))∧al = .slice C m cc∧i = .int .i64 k∧Below w.heap.size w wr∧w.heap.size≤wr.heap.size) (fun _ i _=>nx - (intOf i).toNat)
 case atStart=>exact ⟨0,none,0,0,⟨⟨Nat.zero_le _,Nat.le_refl _⟩,World.ownsRow_nil _ _ _ _,rfl⟩,rfl,rfl,Below.refl _ _,Nat.le_refl _⟩
 case round=>
  obtain ⟨k,C,cc,m,⟨⟨hk,hmk⟩,hown⟩,rfl,rfl,hbel,hsz⟩:=hrel
  obtain ⟨X,rfl⟩:∃ X:Later w.heap.size w,wr=X.w:=⟨⟨wr,hbel⟩,rfl⟩
  by_cases hlt:k+1 < nx
  ·obtain ⟨b,o,hD,hB,hc⟩:=HX.out (by rw [HXN.out];omega)
   subst hD
   have c0:=hc k (by rw [HXN.out];omega)
   have c1:=hc (k+1) (by rw [HXN.out];omega)
   have hkx:k < nx:=by omega
   have hr0:=getD_rng HXR.out k
   have hr1:=getD_rng HXR.out (k+1)
   have hto:=rowN_to (l:=L) (y:=y) HXR.out k
   obtain ⟨x0,hx0⟩:∃ x,xs.getD k 0=x:=⟨_,rfl⟩
   obtain ⟨x1,hx1'⟩:∃ x,xs.getD (k+1) 0=x:=⟨_,rfl⟩
   have hst:rowN L xs y (k+1)=stepRow L xs y (rowN L xs y k) k:=rfl
   have hz:=fun (out:List Sp)=>@row_zero L xs y out k
   have hnl:=@row_nil L xs y k
   have hjn:=fun (out:List Sp) (s:Sp)=>@row_join L xs y out s k
   have hmr:=fun (out:List Sp) (s:Sp)=>@row_more L xs y out s k
   rw [hx0] at c0 hr0 hz hnl hjn hmr
   rw [hx1'] at c1 hr1 hnl hjn hmr
   have c1':=c1
   rw [show o+(k+1)=o+k+1 by omega] at c1
   have p2:=P1.out x0
   obtain ⟨z,hzz⟩:∃ z,zoomF L x0 y=z:=⟨_,rfl⟩
   rw [hzz] at p2 hz hnl hjn hmr
   have P2:=Lib.hid p2
   obtain ⟨M,hM⟩:∃ M,rowN L xs y k=M:=⟨_,rfl⟩
   rw [hM] at hown hto hst
   have HST:=Lib.hid hst
   have HZ:=Lib.hid (And.intro hz (And.intro hnl (And.intro hjn hmr)))
   have HTO:=Lib.hid hto
   clear hc hst hz hnl hjn hmr hto p2 hM hzz hx0 hx1'
   by_cases hz0':z=0
   ·have e0:(z == 0)=true:=by simp [hz0']
    have HN:=Lib.hid (show rowN L xs y (k+1)=M by rw [HST.out,HZ.out.1 _ hz0'])
    clear hz0'
    go_wp2_with (first
     | (go_at_call 155;refine (P2.out _ q9l).mono ?_;rintro e w' ⟨rfl,hb⟩;obtain ⟨X1,rfl,hl1,hm1⟩:=later _ hb (Nat.le_refl _);clear hb;(try simp only [q9A,q9B,q9D] at hm1 hl1)))
    go_roundw
    case rel=>exact ⟨k+1,C,cc,m,⟨⟨by omega,by omega⟩,by rw [HN.out];exact ⟨own_keep hown.out.1 q9l,hown.out.2⟩⟩,rfl,by go_num,q9l,by go_size⟩
    case measure=>simp [intOf];omega
   ·have e0:(z == 0)=false:=by rw [beq_eq_false_iff_ne];exact hz0'
    have hcase:M=[]∨∃ M' s,M=M' ++ [s]:=by
     rcases List.eq_nil_or_concat M with h|⟨M',s,h⟩
     ·exact .inl h
     ·exact .inr ⟨M',s,by simpa using h⟩
    rcases hcase with rfl|⟨M',s,rfl⟩
    ·obtain rfl:m=0:=by have:=hown.out.2;simpa using this.symm
     have HN:=Lib.hid (show rowN L xs y (k+1)=[] ++ [⟨x0,x1 - 1,z⟩] by rw [HST.out,HZ.out.2.1 hz0'];rfl)
     clear hz0'
     go_wp2_with (first
      | (go_at_call 155;refine (P2.out _ q9l).mono ?_;rintro e w' ⟨rfl,hb⟩;obtain ⟨X1,rfl,hl1,hm1⟩:=later _ hb (Nat.le_refl _);clear hb;(try simp only [q9A,q9B,q9D] at hm1 hl1)))
     go_wp2_with fail
     (refine wp_region_later (X1.w.heap.size) (by kernel_rfl) (by kernel_rfl) (by go_size) ?_;(repeat (go_big_quiet_step (fail)));refine wpQuiet_nil ?_;intro Xr hlXr hmXr)
     go_wp2_with fail
     have hbs:Below X.w.heap.size X.w Xr.w:=q9l
     have hss:=hbs.size
     have q0:Xr.w.cell? ⟨b,o+k,none⟩=some (.int .i64 x0):=by go_simp
     have q1:Xr.w.cell? ⟨b,o+(k+1),none⟩=some (.int .i64 x1):=by rw [show o+(k+1)=o+k+1 by omega];go_simp
     have w1:IntKind.i64.wrap ((k:Int)+1)=(k:Int)+1:=IntWalk.i64_in _ (by omega)
     have w2:IntKind.i64.wrap (x1 - 1)=x1 - 1:=IntWalk.i64_in _ (by omega)
     have w3:(0:Int)≤(k:Int)+1:=by omega
     have w4:(k:Int)+1 < (nx:Int):=by omega
     have w5:((k:Int)+1).toNat=k+1:=by omega
     have hnb:(Value.slice C (0) cc).ownBlock≠some b:=fun e=>by
      have:=(hown.out.1.lt _ e).1
      omega
     refine wp_region_early (fun w'=>w'.cell? ⟨b,o+k,none⟩=some (.int .i64 x0)∧w'.cell? ⟨b,o+(k+1),none⟩=some (.int .i64 x1)) (fun j=>decide (j < 15)) (by kernel_rfl) ⟨q0,q1⟩ (fun HS=>?_)
     (refine q9t (i:=0) rfl HS ?_;(try simp only [Act.put,q9x,q9y,q9z]))
     (refine q9t (i:=1) rfl HS ?_;(try simp only [Act.put,q9x,q9y,q9z]))
     (refine q9t (i:=2) rfl HS ?_;(try simp only [Act.put,q9x,q9y,q9z]))
     (refine q9t (i:=3) rfl HS ?_;(try simp only [Act.put,q9x,q9y,q9z]))
     (refine q9t (i:=4) rfl HS ?_;(try simp only [Act.put,q9x,q9y,q9z]))
     (refine q9t (i:=5) rfl HS ?_;(try simp only [Act.put,q9x,q9y,q9z]))
     (refine q9t (i:=6) rfl HS ?_;(try simp only [Act.put,q9x,q9y,q9z]))
     (refine q9t (i:=7) rfl HS ?_;(try simp only [Act.put,q9x,q9y,q9z]))
     (refine q9t (i:=8) rfl HS ?_;(try simp only [Act.put,q9x,q9y,q9z]))
     (refine q9t (i:=9) rfl HS ?_;(try simp only [Act.put,q9x,q9y,q9z]))
     (refine q9t (i:=10) rfl HS ?_;(try simp only [Act.put,q9x,q9y,q9z]))
     (refine q9t (i:=11) rfl HS ?_;(try simp only [Act.put,q9x,q9y,q9z]))
     (refine q9t (i:=12) rfl HS ?_;(try simp only [Act.put,q9x,q9y,q9z]))
     refine wpAnyE_one (i:=13) rfl (by kernel_rfl) ?_
     go_wp2
     refine ⟨fun _=>by go_keep,?_⟩
     refine wpAnyE_one (i:=14) rfl (by kernel_rfl) ?_
     refine wpList_append_own_at _ rfl _ _ 207 rfl w.heap.size 209 i0 (.agg #[.int .i64 0, .int .i64 0, .int .i64 0]) 3 24 Tryz.underlying207 hi hz0 hz1 hz2 rfl (by decide) (.slice C (0) cc) (0) _ (by rfl) (((own_keep hown.out.1 hbs).alloc _).drew) ⟨Xr.w.heap.size,0,none⟩ 1 1 [.int .i64 x0, .int .i64 (x1 - 1), .int .i64 z] (by rfl) (by rfl) (cells_three_new _ _ _ _ _) (by intro u hu;simp at hu;rcases hu with rfl|rfl|rfl <;> rfl) (by unfold maxLen;omega) (by omega) (by simp;omega) ?_
     intro v3 w3 hown3 hgrow3 _ _
     obtain ⟨A3,k3,rfl⟩:=own_formN hown3
     have hb3:Below w.heap.size w w3:=Below.grown (Below.drew (Below.alloc (show Below w.heap.size w Xr.w from q9l) (by go_size) _)) hgrow3 (by go_size) (fun k hk=>(hown.out.1.lt k hk).1)
     have HO3:=Lib.hid hown3
     refine ⟨fun _=>⟨(hgrow3.cell_far _ (by simp;omega) (Ne.symm hnb)).trans (by go_keep),(hgrow3.cell_far _ (by simp;omega) (Ne.symm hnb)).trans (by go_keep)⟩,?_⟩
     clear hown3 hgrow3
     refine wpAnyE_rest (k:=15) rfl (by kernel_rfl) (fun j hj=>by simp;omega) ?_
     simp only [List.drop_succ_cons,List.drop_zero]
     go_wp2
     go_roundw
     case rel=>
      have h9:=HO3.out
      rw [← spV_snoc _ (⟨x0,x1 - 1,z⟩:Sp)] at h9
      exact ⟨k+1,_,_,0+1,⟨⟨by omega,by omega⟩,by rw [HN.out];exact ⟨h9,by rw [List.length_append,hown.out.2];rfl⟩⟩,rfl,by go_num,hb3,hb3.size⟩
     case measure=>simp [intOf];omega
    ·obtain ⟨m',rfl⟩:∃ m',m=m'+1:=⟨M'.length,by have:=hown.out.2;simpa using this.symm⟩
     have hM':M'.length=m':=by have:=hown.out.2;simpa using this
     obtain ⟨g,cap,hv,hbg,hlg⟩:=hown.out.1.form (by omega)
     have hC:C=some ⟨g,0,none⟩:=by injection hv
     subst hC
     clear hv
     obtain ⟨s0,s1,s2⟩:=last_cells hown.out.1 hM'
     have f1:=hown.out.1.frozenAt (m'*3+1)
     have hsr:=HTO.out s (by simp)
     have HM':=Lib.hid hM'
     clear hM'
     by_cases hj:s.zoom=z∧s.to+1=x0
     ·have HN:=Lib.hid (show rowN L xs y (k+1)=M' ++ [⟨s.fr,x1 - 1,s.zoom⟩] by rw [HST.out,HZ.out.2.2.1 M' s hz0' hj.1 hj.2])
      have j1:(s.zoom == z)=true:=by simp [hj.1]
      have j2:(s.to+1 == x0)=true:=by simp [hj.2]
      clear hz0' hj
      go_wp2_with (first
       | (go_at_call 155;refine (P2.out _ q9l).mono ?_;rintro e w' ⟨rfl,hb⟩;obtain ⟨X1,rfl,hl1,hm1⟩:=later _ hb (Nat.le_refl _);clear hb;(try simp only [q9A,q9B,q9D] at hm1 hl1)))
      go_wp2_with fail
      (refine wp_region_later (X1.w.heap.size) (by kernel_rfl) (by kernel_rfl) (by go_size) ?_;(repeat (go_big_quiet_step (fail)));refine wpQuiet_nil ?_;intro Xr hlXr hmXr)
      have hbs:Below X.w.heap.size X.w Xr.w:=q9l
      have hss:=hbs.size
      have HOS:=Lib.hid (last_set (own_keep hown.out.1 hbs) HM'.out (x1 - 1))
      go_wp2
      go_roundw
      case rel=>exact ⟨k+1,_,cc,m'+1,⟨⟨by omega,by omega⟩,by rw [HN.out];exact ⟨HOS.out,by rw [List.length_append,HM'.out];rfl⟩⟩,rfl,by go_num,q9l,by go_size⟩
      case measure=>simp [intOf];omega
     ·have HN:=Lib.hid (show rowN L xs y (k+1)=(M' ++ [s]) ++ [⟨x0,x1 - 1,z⟩] by rw [HST.out,HZ.out.2.2.2 M' s hz0' hj])
      have hj2:((s.zoom == z)=false)∨((s.zoom == z)=true∧(s.to+1 == x0)=false):=by
       by_cases h1:s.zoom=z
       ·right
        exact ⟨by simp [h1],by rw [beq_eq_false_iff_ne];exact fun h2=>hj ⟨h1,h2⟩⟩
       ·left
        rw [beq_eq_false_iff_ne];exact h1
      clear hz0' hj
      rcases hj2 with j1|⟨j1,j2⟩
      ·go_wp2_with (first
        | (go_at_call 155;refine (P2.out _ q9l).mono ?_;rintro e w' ⟨rfl,hb⟩;obtain ⟨X1,rfl,hl1,hm1⟩:=later _ hb (Nat.le_refl _);clear hb;(try simp only [q9A,q9B,q9D] at hm1 hl1)))
       go_wp2_with fail
       (refine wp_region_later (X1.w.heap.size) (by kernel_rfl) (by kernel_rfl) (by go_size) ?_;(repeat (go_big_quiet_step (fail)));refine wpQuiet_nil ?_;intro Xr hlXr hmXr)
       go_wp2_with fail
       have hbs:Below X.w.heap.size X.w Xr.w:=q9l
       have hss:=hbs.size
       have q0:Xr.w.cell? ⟨b,o+k,none⟩=some (.int .i64 x0):=by go_simp
       have q1:Xr.w.cell? ⟨b,o+(k+1),none⟩=some (.int .i64 x1):=by rw [show o+(k+1)=o+k+1 by omega];go_simp
       have w1:IntKind.i64.wrap ((k:Int)+1)=(k:Int)+1:=IntWalk.i64_in _ (by omega)
       have w2:IntKind.i64.wrap (x1 - 1)=x1 - 1:=IntWalk.i64_in _ (by omega)
       have w3:(0:Int)≤(k:Int)+1:=by omega
       have w4:(k:Int)+1 < (nx:Int):=by omega
       have w5:((k:Int)+1).toNat=k+1:=by omega
       have hnb:(Value.slice (some ⟨g,0,none⟩) (m'+1) cc).ownBlock≠some b:=fun e=>by
        have:=(hown.out.1.lt _ e).1
        omega
       refine wp_region_early (fun w'=>w'.cell? ⟨b,o+k,none⟩=some (.int .i64 x0)∧w'.cell? ⟨b,o+(k+1),none⟩=some (.int .i64 x1)) (fun j=>decide (j < 15)) (by kernel_rfl) ⟨q0,q1⟩ (fun HS=>?_)
       (refine q9t (i:=0) rfl HS ?_;(try simp only [Act.put,q9x,q9y,q9z]))
       (refine q9t (i:=1) rfl HS ?_;(try simp only [Act.put,q9x,q9y,q9z]))
       (refine q9t (i:=2) rfl HS ?_;(try simp only [Act.put,q9x,q9y,q9z]))
       (refine q9t (i:=3) rfl HS ?_;(try simp only [Act.put,q9x,q9y,q9z]))
       (refine q9t (i:=4) rfl HS ?_;(try simp only [Act.put,q9x,q9y,q9z]))
       (refine q9t (i:=5) rfl HS ?_;(try simp only [Act.put,q9x,q9y,q9z]))
       (refine q9t (i:=6) rfl HS ?_;(try simp only [Act.put,q9x,q9y,q9z]))
       (refine q9t (i:=7) rfl HS ?_;(try simp only [Act.put,q9x,q9y,q9z]))
       (refine q9t (i:=8) rfl HS ?_;(try simp only [Act.put,q9x,q9y,q9z]))
       (refine q9t (i:=9) rfl HS ?_;(try simp only [Act.put,q9x,q9y,q9z]))
       (refine q9t (i:=10) rfl HS ?_;(try simp only [Act.put,q9x,q9y,q9z]))
       (refine q9t (i:=11) rfl HS ?_;(try simp only [Act.put,q9x,q9y,q9z]))
       (refine q9t (i:=12) rfl HS ?_;(try simp only [Act.put,q9x,q9y,q9z]))
       refine wpAnyE_one (i:=13) rfl (by kernel_rfl) ?_
       go_wp2
       refine ⟨fun _=>by go_keep,?_⟩
       refine wpAnyE_one (i:=14) rfl (by kernel_rfl) ?_
       refine wpList_append_own_at _ rfl _ _ 207 rfl w.heap.size 209 i0 (.agg #[.int .i64 0, .int .i64 0, .int .i64 0]) 3 24 Tryz.underlying207 hi hz0 hz1 hz2 rfl (by decide) (.slice (some ⟨g,0,none⟩) (m'+1) cc) (m'+1) _ (by rfl) (((own_keep hown.out.1 hbs).alloc _).drew) ⟨Xr.w.heap.size,0,none⟩ 1 1 [.int .i64 x0, .int .i64 (x1 - 1), .int .i64 z] (by rfl) (by rfl) (cells_three_new _ _ _ _ _) (by intro u hu;simp at hu;rcases hu with rfl|rfl|rfl <;> rfl) (by unfold maxLen;omega) (by omega) (by simp;omega) ?_
       intro v3 w3 hown3 hgrow3 _ _
       obtain ⟨A3,k3,rfl⟩:=own_formN hown3
       have hb3:Below w.heap.size w w3:=Below.grown (Below.drew (Below.alloc (show Below w.heap.size w Xr.w from q9l) (by go_size) _)) hgrow3 (by go_size) (fun k hk=>(hown.out.1.lt k hk).1)
       have HO3:=Lib.hid hown3
       refine ⟨fun _=>⟨(hgrow3.cell_far _ (by simp;omega) (Ne.symm hnb)).trans (by go_keep),(hgrow3.cell_far _ (by simp;omega) (Ne.symm hnb)).trans (by go_keep)⟩,?_⟩
       clear hown3 hgrow3
       refine wpAnyE_rest (k:=15) rfl (by kernel_rfl) (fun j hj=>by simp;omega) ?_
       simp only [List.drop_succ_cons,List.drop_zero]
       go_wp2
       go_roundw
       case rel=>
        have h9:=HO3.out
        rw [← spV_snoc _ (⟨x0,x1 - 1,z⟩:Sp)] at h9
        exact ⟨k+1,_,_,m'+1+1,⟨⟨by omega,by omega⟩,by rw [HN.out];exact ⟨h9,by rw [List.length_append,hown.out.2];rfl⟩⟩,rfl,by go_num,hb3,hb3.size⟩
       case measure=>simp [intOf];omega
      ·go_wp2_with (first
        | (go_at_call 155;refine (P2.out _ q9l).mono ?_;rintro e w' ⟨rfl,hb⟩;obtain ⟨X1,rfl,hl1,hm1⟩:=later _ hb (Nat.le_refl _);clear hb;(try simp only [q9A,q9B,q9D] at hm1 hl1)))
       go_wp2_with fail
       (refine wp_region_later (X1.w.heap.size) (by kernel_rfl) (by kernel_rfl) (by go_size) ?_;(repeat (go_big_quiet_step (fail)));refine wpQuiet_nil ?_;intro Xr hlXr hmXr)
       go_wp2_with fail
       have hbs:Below X.w.heap.size X.w Xr.w:=q9l
       have hss:=hbs.size
       have q0:Xr.w.cell? ⟨b,o+k,none⟩=some (.int .i64 x0):=by go_simp
       have q1:Xr.w.cell? ⟨b,o+(k+1),none⟩=some (.int .i64 x1):=by rw [show o+(k+1)=o+k+1 by omega];go_simp
       have w1:IntKind.i64.wrap ((k:Int)+1)=(k:Int)+1:=IntWalk.i64_in _ (by omega)
       have w2:IntKind.i64.wrap (x1 - 1)=x1 - 1:=IntWalk.i64_in _ (by omega)
       have w3:(0:Int)≤(k:Int)+1:=by omega
       have w4:(k:Int)+1 < (nx:Int):=by omega
       have w5:((k:Int)+1).toNat=k+1:=by omega
       have hnb:(Value.slice (some ⟨g,0,none⟩) (m'+1) cc).ownBlock≠some b:=fun e=>by
        have:=(hown.out.1.lt _ e).1
        omega
       refine wp_region_early (fun w'=>w'.cell? ⟨b,o+k,none⟩=some (.int .i64 x0)∧w'.cell? ⟨b,o+(k+1),none⟩=some (.int .i64 x1)) (fun j=>decide (j < 15)) (by kernel_rfl) ⟨q0,q1⟩ (fun HS=>?_)
       (refine q9t (i:=0) rfl HS ?_;(try simp only [Act.put,q9x,q9y,q9z]))
       (refine q9t (i:=1) rfl HS ?_;(try simp only [Act.put,q9x,q9y,q9z]))
       (refine q9t (i:=2) rfl HS ?_;(try simp only [Act.put,q9x,q9y,q9z]))
       (refine q9t (i:=3) rfl HS ?_;(try simp only [Act.put,q9x,q9y,q9z]))
       (refine q9t (i:=4) rfl HS ?_;(try simp only [Act.put,q9x,q9y,q9z]))
       (refine q9t (i:=5) rfl HS ?_;(try simp only [Act.put,q9x,q9y,q9z]))
       (refine q9t (i:=6) rfl HS ?_;(try simp only [Act.put,q9x,q9y,q9z]))
       (refine q9t (i:=7) rfl HS ?_;(try simp only [Act.put,q9x,q9y,q9z]))
       (refine q9t (i:=8) rfl HS ?_;(try simp only [Act.put,q9x,q9y,q9z]))
       (refine q9t (i:=9) rfl HS ?_;(try simp only [Act.put,q9x,q9y,q9z]))
       (refine q9t (i:=10) rfl HS ?_;(try simp only [Act.put,q9x,q9y,q9z]))
       (refine q9t (i:=11) rfl HS ?_;(try simp only [Act.put,q9x,q9y,q9z]))
       (refine q9t (i:=12) rfl HS ?_;(try simp only [Act.put,q9x,q9y,q9z]))
       refine wpAnyE_one (i:=13) rfl (by kernel_rfl) ?_
       go_wp2
       refine ⟨fun _=>by go_keep,?_⟩
       refine wpAnyE_one (i:=14) rfl (by kernel_rfl) ?_
       refine wpList_append_own_at _ rfl _ _ 207 rfl w.heap.size 209 i0 (.agg #[.int .i64 0, .int .i64 0, .int .i64 0]) 3 24 Tryz.underlying207 hi hz0 hz1 hz2 rfl (by decide) (.slice (some ⟨g,0,none⟩) (m'+1) cc) (m'+1) _ (by rfl) (((own_keep hown.out.1 hbs).alloc _).drew) ⟨Xr.w.heap.size,0,none⟩ 1 1 [.int .i64 x0, .int .i64 (x1 - 1), .int .i64 z] (by rfl) (by rfl) (cells_three_new _ _ _ _ _) (by intro u hu;simp at hu;rcases hu with rfl|rfl|rfl <;> rfl) (by unfold maxLen;omega) (by omega) (by simp;omega) ?_
       intro v3 w3 hown3 hgrow3 _ _
       obtain ⟨A3,k3,rfl⟩:=own_formN hown3
       have hb3:Below w.heap.size w w3:=Below.grown (Below.drew (Below.alloc (show Below w.heap.size w Xr.w from q9l) (by go_size) _)) hgrow3 (by go_size) (fun k hk=>(hown.out.1.lt k hk).1)
       have HO3:=Lib.hid hown3
       refine ⟨fun _=>⟨(hgrow3.cell_far _ (by simp;omega) (Ne.symm hnb)).trans (by go_keep),(hgrow3.cell_far _ (by simp;omega) (Ne.symm hnb)).trans (by go_keep)⟩,?_⟩
       clear hown3 hgrow3
       refine wpAnyE_rest (k:=15) rfl (by kernel_rfl) (fun j hj=>by simp;omega) ?_
       simp only [List.drop_succ_cons,List.drop_zero]
       go_wp2
       go_roundw
       case rel=>
        have h9:=HO3.out
        rw [← spV_snoc _ (⟨x0,x1 - 1,z⟩:Sp)] at h9
        exact ⟨k+1,_,_,m'+1+1,⟨⟨by omega,by omega⟩,by rw [HN.out];exact ⟨h9,by rw [List.length_append,hown.out.2];rfl⟩⟩,rfl,by go_num,hb3,hb3.size⟩
       case measure=>simp [intOf];omega
  ·have hkn:k=nx - 1:=by omega
   have HN:=Lib.hid (show rowN L xs y k=rowP L xs y by rw [hkn,← HXN.out];rfl)
   have h9:=hown.out
   rw [HN.out] at h9
   have HO:=Lib.hid h9
   have hkx:nx≤k+1:=by omega
   clear h9 hown hkn
   go_wp2
   go_ret
   exact HPost.out _ _ _ _ _ rfl HO.out.2 HO.out.1 q9l
end Go.Proofs.YthlijfligikciaaGreat
namespace Go.Proofs.YthlijfligikciaaGreat
open Go.RowKit
set_option linter.unusedSimpArgs false
set_option linter.unusedVariables false
set_option maxRecDepth 4000
def Sps (w:World) (B:Nat) (A:Option Addr) (L:List Sp):Prop:=0 < L.length→∃ b o,A=some ⟨b,o,none⟩∧b < B∧∀ i,i < L.length→w.cell? ⟨b,o+i*3,none⟩=some (.int .i64 (L.getD i sp0).fr)∧w.cell? ⟨b,o+i*3+1,none⟩=some (.int .i64 (L.getD i sp0).to)∧w.cell? ⟨b,o+i*3+2,none⟩=some (.int .i64 (L.getD i sp0).zoom)
theorem Sps.keep {w w':World} {B:Nat} {A:Option Addr} {L:List Sp} (h:Sps w B A L) (hb:Below B w w'):Sps w' B A L:=fun hn=>by
 obtain ⟨b,o,rfl,hlt,hc⟩:=h hn
 have e:∀ j,w'.cell? ⟨b,j,none⟩=w.cell? ⟨b,j,none⟩:=fun j=>hb.cell (p:=⟨b,j,none⟩) hlt
 exact ⟨b,o,rfl,hlt,fun i hi=>⟨(e _).trans (hc i hi).1,(e _).trans (hc i hi).2.1,(e _).trans (hc i hi).2.2⟩⟩
theorem Sps.more {w:World} {B B':Nat} {A:Option Addr} {L:List Sp} (h:Sps w B A L) (hb:B≤B'):Sps w B' A L:=fun hn=>by
 obtain ⟨b,o,rfl,hlt,hc⟩:=h hn
 exact ⟨b,o,rfl,Nat.lt_of_lt_of_le hlt hb,hc⟩
theorem spV_get:∀ (L:List Sp) (i:Nat),i < L.length→(spV L)[i*3]? = some (.int .i64 (L.getD i sp0).fr)∧(spV L)[i*3+1]? = some (.int .i64 (L.getD i sp0).to)∧(spV L)[i*3+2]? = some (.int .i64 (L.getD i sp0).zoom)
 | [],i,h=>absurd h (by simp)
 | s :: L,0,_=>⟨rfl,rfl,rfl⟩
 | s :: L,i+1,h=>by
  obtain ⟨h1,h2,h3⟩:=spV_get L i (by simpa using h)
  have e1:(i+1)*3=i*3+1+1+1:=by omega
  have e2:(i+1)*3+1=i*3+1+1+1+1:=by omega
  have e3:(i+1)*3+2=i*3+2+1+1+1:=by omega
  rw [e3,e2,e1]
  simp only [spV,List.flatMap_cons,List.cons_append,List.nil_append,List.getElem?_cons_succ]
  exact ⟨by simpa [spV,List.getD] using h1,by simpa [spV,List.getD] using h2,by simpa [spV,List.getD] using h3⟩
theorem sps_own {w:World} {base n c:Nat} {e:TypeId} {A:Option Addr} {L:List Sp} (h:w.ownsRow base e 3 (.slice A n c) n (spV L)) (hn:L.length=n):Sps w w.heap.size A L:=fun hp=>by
 obtain ⟨g,cap,hv,_,hlt⟩:=h.form (by omega)
 have hA:A=some ⟨g,0,none⟩:=by injection hv
 subst hA
 refine ⟨g,0,rfl,hlt,fun i hi=>?_⟩
 obtain ⟨h1,h2,h3⟩:=spV_get L i hi
 have a1:=h.cells (g:=g) rfl _ _ h1
 have a2:=h.cells (g:=g) rfl _ _ h2
 have a3:=h.cells (g:=g) rfl _ _ h3
 rw [Addr.add_lit] at a1 a2 a3
 exact ⟨a1,by rw [Nat.add_assoc];exact a2,by rw [Nat.add_assoc];exact a3⟩
theorem getS_lt {L:List Sp} {i:Nat} (h:i < L.length):L.getD i sp0=L[i]:=by simp [List.getD,List.getElem?_eq_getElem h]
def eqS (x y:Sp):Bool:=decide (x.fr=y.fr∧x.to=y.to∧x.zoom=y.zoom)
theorem eqS_iff {x y:Sp}:eqS x y=true↔x=y:=by
 unfold eqS
 rw [decide_eq_true_eq]
 constructor
 ·rintro ⟨a,b,c⟩;cases x;cases y;simp_all
 ·rintro rfl;simp
instance:DecidableEq Sp:=fun a b=>decidable_of_iff (eqS a b=true) eqS_iff
theorem eqIn_span (x y:Sp) (w:World):(Op.equalIn 10000 209 (.agg #[.int .i64 x.fr, .int .i64 x.to, .int .i64 x.zoom]) (.agg #[.int .i64 y.fr, .int .i64 y.to, .int .i64 y.zoom])).run Tryz.prog w = .ok (eqS x y) w:=by
 have hS:Tryz.prog.underlying 209=some (.struct (Tryz.prog.fieldsOf 209)):=by kernel_rfl
 have hp:Tryz.prog.stoodInHeld 209=false:=by kernel_rfl
 obtain ⟨a,b,c⟩:=x
 obtain ⟨a',b',c'⟩:=y
 rw [show (10000:Nat)=9999+1 from rfl,run_equalIn_agg w 9999 209 _ _ hS hp]
 unfold eqS
 simp only [Program.fieldsOf,Tryz.underlying209]
 clear hS hp
 go_simp
 repeat' split
 all_goals simp_all
theorem neq_span (x y:Sp) (w:World):(binOp .neq 209 (.agg #[.int .i64 x.fr, .int .i64 x.to, .int .i64 x.zoom]) (.agg #[.int .i64 y.fr, .int .i64 y.to, .int .i64 y.zoom])).run Tryz.prog w = .ok (.bool (!eqS x y)) w:=by
 rw [run_neq_struct,eqIn_span]
 rfl
set_option maxHeartbeats 8000000 in
theorem sequal_any (n1 n2 c1 c2:Nat) (C1 C2:Option Addr) (L M:List Sp) (w:World) (h1:Sps w w.heap.size C1 L) (h2:Sps w w.heap.size C2 M) (hn1:L.length=n1) (hn2:M.length=n2) (hb:n1≤1000000000):
  Calls Tryz.prog 144 #[.slice C1 n1 c1, .slice C2 n2 c2] w fun e w'=>e = .returned (.bool (decide (L=M)))∧Below w.heap.size w w':=by
 by_cases hne:n1=n2
 ·subst hne
  have HA:=Lib.hid h1
  have HB:=Lib.hid h2
  have HN:=Lib.hid (show L.length=n1∧M.length=n1 from ⟨hn1,hn2⟩)
  clear h1 h2 hn1 hn2
  obtain ⟨R,hR⟩:∃ R,decide (L=M)=R:=⟨_,rfl⟩
  have HR:=Lib.hid hR
  rw [hR]
  clear hR
  go_enter Tryz.func144,Tryz.ntmps144
  go_wp2
  go_loopw [13] (fun i wr=>∃ k:Nat,(k≤n1∧Hid (∀ j,j < k→L.getD j sp0=M.getD j sp0))∧i = .int .i64 k∧Below w.heap.size w wr) (fun i _=>n1 - (intOf i).toNat)
  case atStart=>exact ⟨0,⟨Nat.zero_le _,fun j hj=>absurd hj (by omega)⟩,rfl,q9o⟩
  case round=>
   obtain ⟨k,⟨hk,hall⟩,rfl,hb⟩:=hrel
   obtain ⟨X,rfl⟩:∃ X:Later w.heap.size w,wr=X.w:=⟨⟨wr,hb⟩,rfl⟩
   clear hb
   by_cases hlt:k < n1
   ·obtain ⟨b,o,hA,hB,hc⟩:=HA.out (by rw [HN.out.1];omega)
    obtain ⟨b',o',hA',hB',hc'⟩:=HB.out (by rw [HN.out.2];omega)
    subst hA hA'
    obtain ⟨c0,d1,c2⟩:=hc k (by rw [HN.out.1];exact hlt)
    obtain ⟨d0,e1,d2⟩:=hc' k (by rw [HN.out.2];exact hlt)
    obtain ⟨x,hx⟩:∃ x,L.getD k sp0=x:=⟨_,rfl⟩
    obtain ⟨y,hy⟩:∃ y,M.getD k sp0=y:=⟨_,rfl⟩
    have hno:x≠y→R=false:=fun he=>by
     rw [← HR.out,decide_eq_false_iff_not]
     rintro rfl
     exact he (by rw [← hx,← hy])
    have hnx:x=y→∀ j,j < k+1→L.getD j sp0=M.getD j sp0:=fun he j hj=>by
     rcases Nat.lt_or_eq_of_le (Nat.le_of_lt_succ hj) with h|rfl
     ·exact hall.out j h
     ·rw [hx,hy,he]
    rw [hx] at c0 d1 c2
    rw [hy] at d0 e1 d2
    have heq:=eqS_iff (x:=x) (y:=y)
    have HQ:=neq_span x y
    obtain ⟨d,hd⟩:∃ d,eqS x y=d:=⟨_,rfl⟩
    rw [hd] at heq HQ
    cases d with
    | true=>
     have HNX:=Lib.hid (hnx (heq.1 rfl))
     clear hno hnx hx hy heq hd hc hc'
     go_wp2
     go_quiet (fail)
     go_wp2
     go_roundw
     case rel=>exact ⟨k+1,⟨by omega,HNX.out⟩,by go_num,q9l⟩
     case measure=>simp [intOf];omega
    | false=>
     obtain rfl:R=false:=hno (fun he=>by have:=heq.2 he;cases this)
     clear hno hnx hx hy heq hd hc hc'
     go_wp2
     go_quiet (fail)
     go_wp2
     go_ret
     exact ⟨rfl,q9l⟩
   ·obtain rfl:k=n1:=by omega
    obtain rfl:R=true:=by
     rw [← HR.out,decide_eq_true_eq]
     refine List.ext_getElem (by rw [HN.out.1,HN.out.2]) fun i hi1 hi2=>?_
     have:=hall.out i (by rw [← HN.out.1];exact hi1)
     rwa [getS_lt hi1,getS_lt hi2] at this
    go_wp2
    go_ret
    exact ⟨rfl,q9l⟩
 ·have hR:decide (L=M)=false:=by
   rw [decide_eq_false_iff_not]
   rintro rfl
   exact hne (hn1.symm.trans hn2)
  rw [hR]
  have hne':((n1:Int) == (n2:Int))=false:=by rw [beq_eq_false_iff_ne];omega
  clear h1 h2 hn1 hn2 hR hne
  go_enter Tryz.func144,Tryz.ntmps144
  go_wp2
  go_ret
  exact ⟨rfl,q9o⟩
end Go.Proofs.YthlijfligikciaaGreat
