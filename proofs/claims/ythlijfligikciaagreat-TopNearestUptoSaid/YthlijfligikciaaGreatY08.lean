/- A part of one proof: TpL TpM. No condition. -/
import Derived.Test.YthlijfligikciaaGreatY07
import Derived.BigQuiet
namespace Go.Proofs.YthlijfligikciaaGreat
open Go.RowKit Go.Maps
set_option linter.unusedSimpArgs false
set_option linter.unusedVariables false
set_option maxRecDepth 2000
def PatPost (g:Nat→Prop) (lo q b k:Nat) (L:List Rl) (r t l:Int) (w:World) (e:Ending) (w':World):Prop:=
 (∃ C cc PL,e = .returned (.slice C PL.length cc)∧EntAt w' lo b (mineR L r t l) C PL g)∧Tb w' lo q b (k+1) L g∧w.grownBy w' (some b)
theorem nums_rng {a b c:Int} (h:numsB a b c=true):(0≤a∧a≤7)∧(0≤b∧b≤7)∧0≤c∧c≤7:=by
 unfold numsB smallB at h
 simp at h
 omega
theorem wf_small {a:Int} (h:0≤a∧a≤7):wf64 a:=by unfold wf64;omega
theorem grown_below {w w':World} {x:Option Nat} (h:Below w.heap.size w w'):w.grownBy w' x:=⟨h.os,h.tape,h.output,h.size,fun k hk _=>h.block k hk⟩
theorem grown_after {w w1 w2:World} {x:Option Nat} (h:Below w.heap.size w w1) (h':w1.grownBy w2 x):w.grownBy w2 x:=
 ⟨h'.os.trans h.os,h'.tape.trans h.tape,h'.output.trans h.output,Nat.le_trans h.size h'.size,fun k hk hx=>(h'.block k (Nat.lt_of_lt_of_le hk h.size) hx).trans (h.block k hk)⟩
theorem Tb.mono {w:World} {lo q b k m:Nat} {L:List Rl} {g:Nat→Prop} (h:Tb w lo q b k L g) (hm:k≤m):Tb w lo q b m L g:=by
 obtain ⟨lt,ne,lq,lb,gq,A,c,P,S,B,c0,c1,hr,h3,he⟩:=h
 exact ⟨lt,ne,lq,lb,gq,A,c,P,S,B,c0,c1,hr,h3.mono hm,he⟩
theorem cells_seven_new (w:World) (a b c d e f g:Value) (t:TypeId):∀ j u,([a,b,c,d,e,f,g]:List Value)[j]? = some u→(w.alloc (.cells #[a,b,c,d,e,f,g] t)).cell? ((⟨w.heap.size,0,none⟩:Addr).add j)=some u:=by
 intro j u hj
 match j,hj with
 | 0,hj|1,hj|2,hj|3,hj|4,hj|5,hj|6,hj=>simp at hj;subst hj;simp [Addr.add]
set_option maxHeartbeats 16000000 in
theorem patches_any (g:Nat→Prop) (lo q b k:Nat) (L:List Rl) (r t l:Int) (w:World) (h:Tb w lo q b k L g) (hgw:∀ x,g x→x < w.heap.size) (hk:k < 1000000) (hnum:numsB r t l=true) (hcnt:cntB L≤1048576) (hn1:L.length≤1000000):
  Calls Tryz.prog 71 #[.pointer (some ⟨q,0,none⟩), .int .i64 r, .int .i64 t, .int .i64 l] w (PatPost g lo q b k L r t l w):=by
 obtain ⟨j0,hj,hy0,hy1,hy2⟩:=info_parts (show (Tryz.prog.info? 65).map (fun i=>(i.zero,i.size,i.bytes))=some (some (.agg #[.int .i64 0, .int .i64 0, .int .i64 0, .int .i64 0, .int .i64 0, .slice none 0 0, .int .i64 0]),7,72) by kernel_rfl)
 have hpk:=Tb.mono h (Nat.le_succ k)
 obtain ⟨lt,ne,lq,lb,gq,A,c,P,S,B,c0,c1,hr,hm,he⟩:=h
 obtain ⟨hr1,hr2,hr3⟩:=nums_rng hnum
 have hlook:=fun (Y:World) (hY:Below w.heap.size w Y)=>(hm.same (hY.block b hm.lt)).look (wf_small hr1) (wf_small hr2) (wf_small hr3)
 have hl2:=fun (X:Later (w.heap.size+1) (w.alloc (.cells #[.int .i64 r, .int .i64 t, .int .i64 l] 204)))=>hlook X.w (((Below.refl w.heap.size w).alloc (Nat.le_refl _) _).trans (X.is.mono (Nat.le_succ _)))
 unfold key3 at hl2
 clear hlook
 have hbl:=hm.lt
 cases hS:S r t l with
 | some v=>
  obtain ⟨C,cc,PL,rfl,hp,hcov,hlen,hfar⟩:=he r t l hnum v hS
  have HF:=Lib.hid (show ∀ w',Below w.heap.size w w'→PatPost g lo q b k L r t l w (.returned (.slice C PL.length cc)) w' from fun w' hb=>⟨⟨C,cc,PL,rfl,(hp.keep hb).more hb.size,hcov,hlen,hfar⟩,hpk.keep hb,grown_below hb⟩)
  rw [hS] at hl2
  simp only [Option.getD_some,Option.isSome_some] at hl2
  obtain ⟨n,hn⟩:∃ n,L.length=n:=⟨_,rfl⟩
  obtain ⟨m,hm9⟩:∃ m,PL.length=m:=⟨_,rfl⟩
  rw [hn] at c0
  rw [hm9] at hl2 HF
  generalize PatPost g lo q b k L r t l w=Post at HF ⊢
  clear hgw gq hS hpk he hr hn1 hn hcov hlen hfar hp hm9 hm
  go_enter Tryz.func71,Tryz.ntmps71
  go_wp2_with fail
  (refine wp_region_later (w.heap.size+1) (by kernel_rfl) (by kernel_rfl) (by go_size) ?_;(repeat (go_big_quiet_step (fail)));refine wpQuiet_nil ?_;intro Xq hlXq hmXq)
  go_wp2_with fail
  exact HF.out _ q9l
 | none=>
  rw [hS] at hl2
  simp only [Option.getD_none,Option.isSome_none] at hl2
  have HFin:=Lib.hid (show ∀ w1 w2 C cc PL,Below w.heap.size w w1→w1.grownBy w2 (some b)→M3 w2 b (k+1) (fun x y z=>if x=r∧y=t∧z=l then some (.slice C PL.length cc) else S x y z)→Pats w1 w1.heap.size C PL→CovAll (mineR L r t l) PL→(PL.length≤5000000000∧PL.length≤patsB (mineR L r t l))→(0 < PL.length→∀ a,C=some a→w.heap.size≤a.block)→PatPost g lo q b k L r t l w (.returned (.slice C PL.length cc)) w2 from
   fun w1 w2 C cc PL hb hg hm2 hp hcov hlen hfar=>by
    have hs1:=hb.size
    have hne:0 < PL.length→∀ a,C=some a→a.block≠b:=fun h0 a ha=>by have:=hfar h0 a ha;omega
    have hst:0 < PL.length→∀ a,C=some a→w2.heap[a.block]? = w1.heap[a.block]? := fun h0 a ha=>by
     obtain ⟨b',o',e',hlt',_⟩:=hp h0
     have hn:=hne h0 a ha
     rw [e'] at ha
     injection ha with ha
     subst ha
     exact hg.block _ hlt' (fun e=>by injection e with e;exact hn e)
    have hfar2:0 < PL.length→∀ a,C=some a→(lo≤a.block∧a.block≠b)∧¬ g a.block:=fun h0 a ha=>⟨⟨by have:=hfar h0 a ha;omega,hne h0 a ha⟩,fun e=>by have h1:=hgw _ e;have h2:=hfar h0 a ha;omega⟩
    refine ⟨⟨C,cc,PL,rfl,(hp.same hst).more hg.size,hcov,hlen,hfar2⟩,?_,grown_after hb hg⟩
    refine Tb.put (by omega) (by omega) ne lq lb gq ((hb.cell (p:=⟨q,0,none⟩) lt).trans c0) ((hb.cell (p:=⟨q,1,none⟩) lt).trans c1) ⟨hr.1,hr.2.1.keep (hb.mono (by have:=hr.1;omega)),hr.2.2⟩ (fun x y z hn u hu=>(he x y z hn u hu).agree (fun j _ _ h2=>hb.block j h2) hb.size) hm2 hg ⟨C,cc,PL,rfl,hp,hcov,hlen,hfar2⟩)
  have HM:=Lib.hid (fun (Y:World) (hY:Below w.heap.size w Y) (v:Value)=>(hm.same (hY.block b hm.lt)).put (by omega) (wf_small hr1) (wf_small hr2) (wf_small hr3) v)
  have HR:=Lib.hid hr
  have hcl:cntB (mineR L r t l)≤1048576:=Nat.le_trans (cnt_filter _ L) hcnt
  obtain ⟨n,hn⟩:∃ n,L.length=n:=⟨_,rfl⟩
  rw [hn] at c0 hn1
  have HN:=Lib.hid hn
  have HCL:=Lib.hid hcl
  have HBL:=Lib.hid (show ∀ i,i < n→(L.getD i rl0).boxes.length≤1048576 from fun i hi=>by
   rw [← hn] at hi
   rw [getR_lt hi]
   exact Nat.le_trans (cnt_mem (List.getElem_mem hi)) hcnt)
  generalize PatPost g lo q b k L r t l w=Post at HFin ⊢
  have hrb:=hr.1
  clear hgw gq hS hpk he hr hn hm hcnt hcl
  go_enter Tryz.func71,Tryz.ntmps71
  go_wp2_with fail
  (refine wp_region_later (w.heap.size+1) (by kernel_rfl) (by kernel_rfl) (by go_size) ?_;(repeat (go_big_quiet_step (fail)));refine wpQuiet_nil ?_;intro Xq hlXq hmXq)
  go_wp2_with fail
  have hbq:Below w.heap.size w Xq.w:=q9l
  have hkq:Xq.w.cell? ⟨w.heap.size,0,none⟩=some (.int .i64 r)∧Xq.w.cell? ⟨w.heap.size,1,none⟩=some (.int .i64 t)∧Xq.w.cell? ⟨w.heap.size,2,none⟩=some (.int .i64 l):=⟨by go_simp,by go_simp,by go_simp⟩
  have hqs:=hbq.size
  have HMN:=Lib.hid (mineN_len L P r t l)
  go_loopw [12,36] (fun al i wr=>∃ (j:Nat) (C:Option Addr) (cc m:Nat),((j≤n∧m≤j)∧Hid (wr.ownsRow (w.heap.size+1) 65 7 (.slice C m cc) m (mV (mineN L P r t l j))∧(mineN L P r t l j).length=m))∧al = .slice C m cc∧i = .int .i64 j∧Below (w.heap.size+1) Xq.w wr∧w.heap.size+1≤wr.heap.size) (fun _ i _=>n - (intOf i).toNat)
  case atStart=>exact ⟨0,none,0,0,⟨⟨Nat.zero_le _,Nat.le_refl _⟩,World.ownsRow_nil _ _ _ _,rfl⟩,rfl,rfl,Below.refl _ _,by omega⟩
  case round=>
   obtain ⟨j,C,cc,m,⟨⟨hj1,hmj⟩,hown⟩,rfl,rfl,hbel,hsz⟩:=hrel
   obtain ⟨X,rfl⟩:∃ X:Later (w.heap.size+1) Xq.w,wr=X.w:=⟨⟨wr,hbel⟩,rfl⟩
   have hbX:Below w.heap.size w X.w:=hbq.trans (hbel.mono (Nat.le_succ _))
   clear hbel
   by_cases hlt:j < n
   ·have hjL:j < L.length:=by rw [HN.out];exact hlt
    have hRX:=HR.out.2.1.keep (hbX.mono (by omega))
    obtain ⟨bb,o,hA,hB,d0,d1,d2,d3,d4,d5,d6⟩:=rls_at hRX hjL
    subst hA
    have hbx:=HBL.out j hlt
    have hbs:=hRX.bx j hjL
    have hnx:mineN L P r t l (j+1)=if forR (L.getD j rl0) r t l=true then mineN L P r t l j ++ [(L.getD j rl0,P j)] else mineN L P r t l j:=rfl
    obtain ⟨A1,cc1,hP⟩:∃ A1 cc1,P j=(A1,cc1):=⟨_,_,rfl⟩
    rw [hP] at d5 hbs hnx
    obtain ⟨x,hx⟩:∃ x,L.getD j rl0=x:=⟨_,rfl⟩
    rw [hx] at d0 d1 d2 d3 d4 d5 d6 hbx hbs hnx
    obtain ⟨z,hz⟩:∃ z,x.boxes.length=z:=⟨_,rfl⟩
    rw [hz] at d5 hbx
    have p2:=fun (Y:World) (hY:Below X.w.heap.size X.w Y)=>rfor_any x z cc1 A1 r t l Y (((hbs.keep (hY.mono (by have:=hbX.size;omega))).more (by have:=hbX.size;have:=hY.size;omega))) hz (by omega)
    obtain ⟨d,hd⟩:∃ d,forR x r t l=d:=⟨_,rfl⟩
    rw [hd] at p2 hnx
    have P2:=Lib.hid p2
    have HX:=Lib.hid (And.intro hnx hz)
    have hbB:bb < w.heap.size:=by omega
    clear p2 hd hnx hx hz hbs hP hRX
    cases d with
    | true=>
     have HN2:=Lib.hid (show mineN L P r t l (j+1)=mineN L P r t l j ++ [(x,(A1,cc1))] by rw [HX.out.1];rfl)
     go_wp2_with (first
      | (go_at_call 106;with_reducible refine (P2.out _ ?_).mono ?_;(focus (exact q9l));rintro e w' ⟨rfl,hb⟩;obtain ⟨X1,rfl,hl1,hm1⟩:=later _ hb (Nat.le_refl _);clear hb;(try simp only [q9A,q9B,q9D] at hm1 hl1))
      | (at_builtin;refine wpList_append_own_at _ rfl _ _ 22 rfl (w.heap.size+1) 65 j0 (.agg #[.int .i64 0, .int .i64 0, .int .i64 0, .int .i64 0, .int .i64 0, .slice none 0 0, .int .i64 0]) 7 72 Tryz.underlying22 hj hy0 hy1 hy2 rfl (by decide) (.slice C m cc) m _ (by rfl) ((own_keep hown.out.1 (show Below X.w.heap.size X.w X1.w from q9l)).alloc _) ⟨X1.w.heap.size,0,none⟩ 1 1 [.int .i64 x.kind, .int .i64 x.roles, .int .i64 x.lo, .int .i64 x.hi, .int .i64 x.labels, .slice A1 z cc1, .int .i64 x.zoom] (by rfl) (by rfl) (cells_seven_new _ _ _ _ _ _ _ _ _) (by intro u hu;simp at hu;rcases hu with rfl|rfl|rfl|rfl|rfl|rfl|rfl <;> rfl) (by unfold maxLen;omega) (by omega) (by simp;omega) ?_;intro v3 w3 hown3 hgrow3 hat3 hlt3;have HG3:=Lib.hid (show Below (w.heap.size+1) Xq.w w3 from Below.grown (Below.alloc (show Below (w.heap.size+1) Xq.w X1.w from q9l) (by go_size) _) hgrow3 (by go_size) (fun kk hkk=>(hown.out.1.lt kk hkk).1));have HO3:=Lib.hid hown3;have hs3:=hgrow3.size;clear hown3 hgrow3 hat3 hlt3))
     go_roundw
     case rel=>
      obtain ⟨A3,k3,rfl⟩:=own_formN HO3.out
      have h9:=HO3.out
      rw [show (mV (mineN L P r t l j) ++ [.int .i64 x.kind, .int .i64 x.roles, .int .i64 x.lo, .int .i64 x.hi, .int .i64 x.labels, .slice A1 z cc1, .int .i64 x.zoom]:List Value)=mV (mineN L P r t l (j+1)) by rw [HN2.out,mV_snoc];unfold rpV;rw [HX.out.2]] at h9
      exact ⟨j+1,A3,k3,m+1,⟨⟨by omega,by omega⟩,h9,by rw [HN2.out,List.length_append,hown.out.2];rfl⟩,rfl,by go_num,HG3.out,by have:=HG3.out.size;omega⟩
     case measure=>simp [intOf];omega
    | false=>
     have HN2:=Lib.hid (show mineN L P r t l (j+1)=mineN L P r t l j from HX.out.1)
     go_wp2_with (first
      | (go_at_call 106;with_reducible refine (P2.out _ ?_).mono ?_;(focus (exact q9l));rintro e w' ⟨rfl,hb⟩;obtain ⟨X1,rfl,hl1,hm1⟩:=later _ hb (Nat.le_refl _);clear hb;(try simp only [q9A,q9B,q9D] at hm1 hl1)))
     go_roundw
     case rel=>exact ⟨j+1,C,cc,m,⟨⟨by omega,by omega⟩,by rw [HN2.out];exact ⟨own_keep hown.out.1 q9l,hown.out.2⟩⟩,rfl,by go_num,q9l,by go_size⟩
     case measure=>simp [intOf];omega
   ·obtain rfl:j=n:=by omega
    have hmem:=fun x (hx:x ∈ mineN L P r t l j)=>mineN_mem (L:=L) (P:=P) (a:=r) (b:=t) (c:=l) j x hx
    have hRX:=HR.out.2.1.keep (hbX.mono (by omega))
    have hrls:=rls_own hown.out.1 hown.out.2 (Nat.le_refl _) (fun x hx=>by
     obtain ⟨i,hi,rfl⟩:=hmem x hx
     exact (hRX.bx i (by rw [HN.out];exact hi)).more (by have:=hbX.size;omega)) (fun x hx=>by
     obtain ⟨i,hi,rfl⟩:=hmem x hx
     exact hRX.cap i (by rw [HN.out];exact hi))
    have hfst:=mineN_fst L P r t l j (by rw [HN.out];exact Nat.le_refl _)
    rw [show L.take j=L by rw [← HN.out,List.take_length]] at hfst
    rw [hfst] at hrls
    have hlen:(mineR L r t l).length=m:=by rw [← hfst,List.length_map];exact hown.out.2
    have hbx:∀ i,i < m→((mineR L r t l).getD i rl0).boxes.length≤9223372036854775806:=fun i hi=>by
     rw [← hlen] at hi
     rw [getR_lt hi]
     exact Nat.le_trans (cnt_mem (List.getElem_mem hi)) (Nat.le_trans HCL.out (by decide))
    have HBA:=Lib.hid (bands_any X.w.heap.size m cc 0 C (mineR L r t l) _ (X.w.alloc (.cells #[.slice none 0 0] 141)) (hrls.keep ((Below.refl _ _).alloc (Nat.le_refl _) _)) hlen (by omega) (mine_ok L r t l) hbx HCL.out ⟨by simp,by simp,by simp,World.ownsRow_nil _ _ _ _⟩)
    clear hmem hRX hrls hfst hlen hbx
    go_wp2_with fail
    go_at_call 110
    refine HBA.out.mono ?_
    rintro e w5 ⟨rfl,C5,cc5,PL,hPB,hcov,hto,hlen5⟩
    have hb5:Below X.w.heap.size X.w w5:=((Below.refl X.w.heap.size X.w).alloc (Nat.le_refl _) _).trans (hto.elder (by simp) (fun a e=>by cases e))
    obtain ⟨X5,rfl⟩:∃ X5:Later X.w.heap.size X.w,w5=X5.w:=⟨⟨w5,hb5⟩,rfl⟩
    have hs5:=hto.size
    simp only [World.size_alloc] at hs5
    have hsX:=hbX.size
    have p0:=hPB.cell
    obtain ⟨u,hu⟩:∃ u,PL.length=u:=⟨_,rfl⟩
    rw [hu] at p0
    have HP5:=Lib.hid (And.intro hPB (And.intro hcov (And.intro hlen5 hu)))
    clear hb5 hPB hcov hto hlen5 hu
    go_wp2_with fail
    obtain ⟨k0,k1,k2⟩:=hkq
    (refine wp_region_later_tail 6 (X5.w.heap.size) (by kernel_rfl) (by kernel_rfl) (by go_size) ?_;simp only [List.take_succ_cons,List.take_zero,List.drop_succ_cons,List.drop_zero];(repeat (go_big_quiet_step (fail)));refine wpQuiet_nil ?_;intro Xm hlXm hmXm)
    have hbm:Below w.heap.size w Xm.w:=hbX.trans ((show Below X.w.heap.size X.w Xm.w from q9l).mono hsX)
    obtain ⟨w9,hput,hM9,hg9⟩:=HM.out Xm.w hbm (.slice C5 u cc5)
    unfold key3 at hput
    have hbm5:Below X5.w.heap.size X5.w Xm.w:=q9l
    have q9:w9.cell? ⟨X.w.heap.size,0,none⟩=some (.slice C5 u cc5):=(hg9.cell_far ⟨X.w.heap.size,0,none⟩ (by have:=hbm5.size;show X.w.heap.size < _;omega) (fun e=>by injection e with e;have e':X.w.heap.size=b:=e;omega)).trans (by go_simp)
    have HE:=Lib.hid (HFin.out Xm.w w9 C5 cc5 PL hbm hg9 (by rw [HP5.out.2.2.2];exact hM9) (((pats_own HP5.out.1.own rfl).keep hbm5).more hbm5.size) HP5.out.2.1 HP5.out.2.2.1 (fun h0 a ha=>by have:=own_new HP5.out.1.own h0 a ha;omega))
    rw [HP5.out.2.2.2] at HE
    clear hM9 hg9
    go_wp2_with fail
    exact HE.out
theorem zoomF_rng {l:List Rl} (hl:OkL l) {x y:Int} (h:zoomF l x y≠0):(0≤x∧x≤65535)∧0≤y∧y≤65535:=by
 obtain ⟨i,hi,u,v⟩:=zoom_inX hl h
 obtain ⟨j,hj,u',v'⟩:=zoom_inY hl h
 have a1:=getD_rng (xsL_rng hl) i
 have a2:=getD_rng (xsL_rng hl) (i+1)
 have b1:=getD_rng (ysL_rng hl) j
 have b2:=getD_rng (ysL_rng hl) (j+1)
 omega
theorem cov_has {l:List Rl} (hl:OkL l) {PL:List Pa} (h:CovAll l PL) {p:Pa} (hp:p ∈ PL) {x y:Int} (hx:hasX p.bx x y=true):zoomF l x y=p.zoom:=by
 obtain ⟨_,h1,h2,h3,h4⟩:=hasX_iff.1 hx
 exact (h.1.1 p hp).2.2.2 x y h1 h2 h3 h4
theorem cov_in {l:List Rl} (hl:OkL l) {PL:List Pa} (h:CovAll l PL) {x y:Int} (hz:zoomF l x y≠0):∃ p ∈ PL,hasX p.bx x y=true:=by
 obtain ⟨p,hp,h1,h2,h3,h4⟩:=h.1.2 x y hz
 obtain ⟨q1,q2,q3,q4⟩:=h.1.1 p hp
 have c1:=zoomF_rng hl (x:=p.bx.a) (y:=p.bx.b) (by rw [q4 _ _ (Int.le_refl _) q1 (Int.le_refl _) q2];exact q3)
 have c2:=zoomF_rng hl (x:=p.bx.c) (y:=p.bx.d) (by rw [q4 _ _ q1 (Int.le_refl _) q2 (Int.le_refl _)];exact q3)
 refine ⟨p,hp,hasX_iff.2 ⟨?_,h1,h2,h3,h4⟩⟩
 unfold rightX rightB
 simp
 omega
def zoomT (L:List Rl) (r t l x y:Int):Int:=if numsB r t l=true then zoomF (mineR L r t l) x y else 0
theorem grown_then {w w1 w2:World} {x:Option Nat} (h:w.grownBy w1 x) (h':Below w1.heap.size w1 w2):w.grownBy w2 x:=
 ⟨h'.os.trans h.os,h'.tape.trans h.tape,h'.output.trans h.output,Nat.le_trans h.size h'.size,fun k hk hx=>(h'.block k (Nat.lt_of_lt_of_le hk h.size)).trans (h.block k hk hx)⟩
theorem getP_lt {L:List Pa} {i:Nat} (h:i < L.length):L.getD i pa0=L[i]:=by simp [List.getD,List.getElem?_eq_getElem h]
theorem neq_map3 (b:Nat) (w:World):(binOp .neq 118 (.map (some b)) (.map none)).run Tryz.prog w = .ok (.bool true) w:=by kernel_rfl
theorem made_any (q b:Nat) (w:World) (h:w.cell? ⟨q,1,none⟩=some (.map (some b))):Calls Tryz.prog 69 #[.pointer (some ⟨q,0,none⟩)] w fun e w'=>e = .returned (.bool true)∧Below w.heap.size w w':=by
 have hne:=neq_map3 b
 go_enter Tryz.func69,Tryz.ntmps69
 go_wp2
 go_ret
 exact ⟨rfl,q9o⟩
set_option maxHeartbeats 4000000 in
theorem gright_any (a b c:Int) (w:World):Calls Tryz.prog 70 #[.int .i64 a, .int .i64 b, .int .i64 c] w fun e w'=>e = .returned (.bool (numsB a b c))∧Below w.heap.size w w':=by
 unfold numsB smallB
 have e:∀ x:Int,decide (0≤x∧x≤7)=(decide (0≤x) && decide (x≤7)):=fun x=>Bool.decide_and _ _
 rw [e a,e b,e c]
 clear e
 obtain ⟨q1,h1⟩:∃ q,decide (0≤a)=q:=⟨_,rfl⟩
 obtain ⟨q2,h2⟩:∃ q,decide (a≤7)=q:=⟨_,rfl⟩
 obtain ⟨q3,h3⟩:∃ q,decide (0≤b)=q:=⟨_,rfl⟩
 obtain ⟨q4,h4⟩:∃ q,decide (b≤7)=q:=⟨_,rfl⟩
 obtain ⟨q5,h5⟩:∃ q,decide (0≤c)=q:=⟨_,rfl⟩
 obtain ⟨q6,h6⟩:∃ q,decide (c≤7)=q:=⟨_,rfl⟩
 rw [h1,h2,h3,h4,h5,h6]
 cases q1 with
 | false=>go_enter Tryz.func70,Tryz.ntmps70;go_wp2;go_ret;exact ⟨by simp,q9o⟩
 | true=>
 cases q2 with
 | false=>go_enter Tryz.func70,Tryz.ntmps70;go_wp2;go_ret;exact ⟨by simp,q9o⟩
 | true=>
 cases q3 with
 | false=>go_enter Tryz.func70,Tryz.ntmps70;go_wp2;go_ret;exact ⟨by simp,q9o⟩
 | true=>
 cases q4 with
 | false=>go_enter Tryz.func70,Tryz.ntmps70;go_wp2;go_ret;exact ⟨by simp,q9o⟩
 | true=>
 cases q5 with
 | false=>go_enter Tryz.func70,Tryz.ntmps70;go_wp2;go_ret;exact ⟨by simp,q9o⟩
 | true=>
 cases q6 with
 | false=>go_enter Tryz.func70,Tryz.ntmps70;go_wp2;go_ret;exact ⟨by simp,q9o⟩
 | true=>go_enter Tryz.func70,Tryz.ntmps70;go_wp2;go_ret;exact ⟨by simp,q9o⟩
def TabPost (g:Nat→Prop) (lo q b k:Nat) (L:List Rl) (v:Value) (w:World) (e:Ending) (w':World):Prop:=
 e = .returned v∧Tb w' lo q b k L g∧w.grownBy w' (some b)
theorem pats_at {w:World} {B i:Nat} {A:Option Addr} {L:List Pa} (h:Pats w B A L) (hi:i < L.length):∃ b o,A=some ⟨b,o,none⟩∧b < B∧w.cell? ⟨b,o+i*5,none⟩=some (.int .i64 (L.getD i pa0).bx.a)∧w.cell? ⟨b,o+i*5+1,none⟩=some (.int .i64 (L.getD i pa0).bx.b)∧w.cell? ⟨b,o+i*5+2,none⟩=some (.int .i64 (L.getD i pa0).bx.c)∧w.cell? ⟨b,o+i*5+3,none⟩=some (.int .i64 (L.getD i pa0).bx.d)∧w.cell? ⟨b,o+i*5+4,none⟩=some (.int .i64 (L.getD i pa0).zoom):=by
 obtain ⟨b,o,e,hlt,hc⟩:=h (by omega)
 exact ⟨b,o,e,hlt,hc i hi⟩
set_option maxHeartbeats 16000000 in
theorem tzoom_any (g:Nat→Prop) (lo q b k:Nat) (L:List Rl) (r t l x y:Int) (w:World) (h:Tb w lo q b k L g) (hgw:∀ x,g x→x < w.heap.size) (hk:k < 1000000) (hcnt:cntB L≤1048576) (hn1:L.length≤1000000):
  Calls Tryz.prog 28 #[.pointer (some ⟨q,0,none⟩), .int .i64 r, .int .i64 t, .int .i64 l, .agg #[.int .i64 x, .int .i64 y]] w (TabPost g lo q b (k+1) L (.int .i64 (zoomT L r t l x y)) w):=by
 have H:=Lib.hid h
 have hc1:w.cell? ⟨q,1,none⟩=some (.map (some b)):=by obtain ⟨_,_,_,_,_,A,c,P,S,B,c0,c1,_⟩:=h;exact c1
 have hql:=h.lt
 have hbl:b < w.heap.size:=by obtain ⟨_,_,_,_,_,A,c,P,S,B,c0,c1,_,hm,_⟩:=h;exact hm.lt
 have hqb:=h.ne
 obtain ⟨d,hd⟩:∃ d,numsB r t l=d:=⟨_,rfl⟩
 have P1:=Lib.hid (fun (Y:World) (hY:Below w.heap.size w Y)=>made_any q b Y ((hY.cell (p:=⟨q,1,none⟩) hql).trans hc1))
 have p2:=fun (Y:World)=>gright_any r t l Y
 rw [hd] at p2
 have P2:=Lib.hid p2
 clear p2
 cases d with
 | false=>
  have hz:zoomT L r t l x y=0:=by unfold zoomT;rw [hd];rfl
  rw [hz]
  have HF:=Lib.hid (show ∀ w',Below w.heap.size w w'→TabPost g lo q b (k+1) L (.int .i64 0) w (.returned (.int .i64 0)) w' from fun w' hb=>⟨rfl,(h.keep hb).mono (Nat.le_succ _),grown_below hb⟩)
  generalize TabPost g lo q b (k+1) L (.int .i64 0) w=Post at HF ⊢
  clear hd hz h
  go_enter Tryz.func28,Tryz.ntmps28
  go_wp2_with (first
   | (go_at_call 69;refine (P1.out _ q9l).mono ?_;rintro e w' ⟨rfl,hb⟩;obtain ⟨X1,rfl,hl1,hm1⟩:=later _ hb (Nat.le_refl _);clear hb;(try simp only [q9A,q9B,q9D] at hm1 hl1))
   | (go_at_call 70;refine (P2.out _).mono ?_;rintro e w' ⟨rfl,hb⟩;obtain ⟨X2,rfl,hl2,hm2⟩:=later _ hb (Nat.le_refl _);clear hb;(try simp only [q9A,q9B,q9D] at hm2 hl2)))
  exact HF.out _ q9l
 | true=>
  have hz:zoomT L r t l x y=zoomF (mineR L r t l) x y:=by unfold zoomT;rw [hd];rfl
  rw [hz]
  have P3:=Lib.hid (fun (Y:World) (hY:Below w.heap.size w Y)=>patches_any g lo q b k L r t l Y (h.keep hY) (fun x e=>Nat.lt_of_lt_of_le (hgw x e) hY.size) hk hd hcnt hn1)
  have hok:=mine_ok L r t l
  clear h hd hz hcnt hn1
  have hlaw:∀ PL,CovAll (mineR L r t l) PL→(∀ i,i < PL.length→hasX (PL.getD i pa0).bx x y=true→zoomF (mineR L r t l) x y=(PL.getD i pa0).zoom)∧((∀ i,i < PL.length→hasX (PL.getD i pa0).bx x y=false)→zoomF (mineR L r t l) x y=0):=fun PL hc=>⟨fun i hi hx=>cov_has hok hc (by rw [getP_lt hi];exact List.getElem_mem hi) hx,fun hno=>Classical.byContradiction fun hz=>by
   obtain ⟨p,hp,hx⟩:=cov_in hok hc hz
   obtain ⟨i,hi,rfl⟩:=List.mem_iff_getElem.1 hp
   have:=hno i hi
   rw [getP_lt hi,hx] at this
   cases this⟩
  have HLW:=Lib.hid hlaw
  generalize zoomF (mineR L r t l) x y=z at HLW hlaw ⊢
  clear hlaw hok
  go_enter Tryz.func28,Tryz.ntmps28
  go_wp2_with (first
   | (go_at_call 69;refine (P1.out _ q9l).mono ?_;rintro e w' ⟨rfl,hb⟩;obtain ⟨X1,rfl,hl1,hm1⟩:=later _ hb (Nat.le_refl _);clear hb;(try simp only [q9A,q9B,q9D] at hm1 hl1))
   | (go_at_call 70;refine (P2.out _).mono ?_;rintro e w' ⟨rfl,hb⟩;obtain ⟨X2,rfl,hl2,hm2⟩:=later _ hb (Nat.le_refl _);clear hb;(try simp only [q9A,q9B,q9D] at hm2 hl2)))
  refine (P3.out _ q9l).mono ?_
  rintro e W ⟨⟨C,cc,PL,rfl,hp,hcov,hlen,_⟩,hT,hg⟩
  have hY:Below w.heap.size w X2.w:=q9l
  have hYs:w.heap.size+1≤X2.w.heap.size:=by go_size
  have HE:=Lib.hid (show ∀ w',Below W.heap.size W w'→TabPost g lo q b (k+1) L (.int .i64 z) w (.returned (.int .i64 z)) w' from fun w' hb=>⟨rfl,hT.keep hb,grown_after hY (grown_then hg hb)⟩)
  have g0:W.cell? ⟨w.heap.size,0,none⟩=some (.int .i64 x):=(hg.cell_far ⟨w.heap.size,0,none⟩ (by show w.heap.size < _;omega) (fun e=>by injection e with e;have e':w.heap.size=b:=e;omega)).trans (by go_simp)
  have g1:W.cell? ⟨w.heap.size,1,none⟩=some (.int .i64 y):=(hg.cell_far ⟨w.heap.size,1,none⟩ (by show w.heap.size < _;omega) (fun e=>by injection e with e;have e':w.heap.size=b:=e;omega)).trans (by go_simp)
  have hWs:w.heap.size < W.heap.size:=by have:=hg.size;omega
  obtain ⟨hhas,hnone⟩:=HLW.out PL hcov
  obtain ⟨m,hm⟩:∃ m,PL.length=m:=⟨_,rfl⟩
  have HP:=Lib.hid (And.intro hp (And.intro hhas (And.intro hnone hm)))
  have hm1:m≤5000000000:=by omega
  rw [hm]
  clear hp hhas hnone hm hcov hlen hT hg hY
  go_wp2_with fail
  go_loopw [29] (fun i wr=>∃ j:Nat,(j≤m∧Hid (∀ i,i < j→hasX (PL.getD i pa0).bx x y=false))∧i = .int .i64 j∧Below W.heap.size W wr) (fun i _=>m - (intOf i).toNat)
  case atStart=>exact ⟨0,⟨Nat.zero_le _,fun i hi=>absurd hi (by omega)⟩,rfl,Below.refl _ _⟩
  case round=>
   obtain ⟨j,⟨hj,hall⟩,rfl,hbel⟩:=hrel
   obtain ⟨X,rfl⟩:∃ X:Later W.heap.size W,wr=X.w:=⟨⟨wr,hbel⟩,rfl⟩
   have hXs:=hbel.size
   by_cases hlt:j < m
   ·have hjL:j < PL.length:=by rw [HP.out.2.2.2];exact hlt
    obtain ⟨bb,o,hA,hB,d0,d1,d2,d3,d4⟩:=pats_at (HP.out.1.keep hbel) hjL
    subst hA
    have hh:=HP.out.2.1 j hjL
    have hnx:hasX (PL.getD j pa0).bx x y=false→∀ i,i < j+1→hasX (PL.getD i pa0).bx x y=false:=fun h i hi=>by
     rcases Nat.lt_or_eq_of_le (Nat.le_of_lt_succ hi) with h9|h9
     ·exact hall.out i h9
     ·rw [h9];exact h
    obtain ⟨p,hp⟩:∃ p,PL.getD j pa0=p:=⟨_,rfl⟩
    rw [hp] at d0 d1 d2 d3 d4 hh hnx
    have P4:=fun (Y:World)=>has_any p.bx.a p.bx.b p.bx.c p.bx.d x y Y
    have e9:hasX p.bx x y=hasB p.bx.a p.bx.b p.bx.c p.bx.d x y:=rfl
    obtain ⟨d,hd⟩:∃ d,hasX p.bx x y=d:=⟨_,rfl⟩
    rw [← e9,hd] at P4
    rw [hd] at hh hnx
    have Q4:=Lib.hid P4
    clear P4 e9 hd hp hbel
    cases d with
    | true=>
     have hz:z=p.zoom:=hh rfl
     rw [← hz] at d4
     clear hh hnx hz
     go_wp2_with (first
      | (go_at_call 72;with_reducible refine (Q4.out _).mono ?_;rintro e w' ⟨rfl,hb⟩;obtain ⟨X4,rfl,hl4,hm4⟩:=later _ hb (Nat.le_refl _);clear hb;(try simp only [q9A,q9B,q9D] at hm4 hl4)))
     go_ret
     exact HE.out _ q9l
    | false=>
     have HNX:=Lib.hid (hnx rfl)
     clear hh hnx
     go_wp2_with (first
      | (go_at_call 72;with_reducible refine (Q4.out _).mono ?_;rintro e w' ⟨rfl,hb⟩;obtain ⟨X4,rfl,hl4,hm4⟩:=later _ hb (Nat.le_refl _);clear hb;(try simp only [q9A,q9B,q9D] at hm4 hl4)))
     go_roundw
     case rel=>exact ⟨j+1,⟨by omega,HNX.out⟩,by go_num,q9l⟩
     case measure=>simp [intOf];omega
   ·obtain rfl:j=m:=by omega
    have hz:z=0:=HP.out.2.2.1 (fun i hi=>hall.out i (by rw [← HP.out.2.2.2];exact hi))
    subst hz
    go_wp2_with fail
    go_ret
    exact HE.out _ q9l
end Go.Proofs.YthlijfligikciaaGreat
