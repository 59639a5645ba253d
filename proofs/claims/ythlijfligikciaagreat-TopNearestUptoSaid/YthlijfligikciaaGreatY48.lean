/- A part of one proof: NlB RvF MapB RvI RvK TsC. No condition. -/
import Derived.Test.YthlijfligikciaaGreatY46
import Derived.Test.YthlijfligikciaaGreatY47
import Derived.Test.YthlijfligikciaaGreatY24
import Derived.Test.YthlijfligikciaaGreatY10
import Derived.Deep.CutBlock
import Derived.Laws.NewBlocks
import Derived.Test.YthlijfligikciaaGreatY07
import Derived.Test.YthlijfligikciaaGreatY11
import Derived.Test.YthlijfligikciaaGreatY13
import Derived.Laws.ResultCell
import Derived.Test.YthlijfligikciaaGreatY09
namespace Go.Proofs.YthlijfligikciaaGreat
open Go.RowKit Go.Maps
set_option linter.unusedSimpArgs false
set_option linter.unusedVariables false
set_option maxRecDepth 2000
theorem sub_len {α:Type} [DecidableEq α]:∀ {L M:List α},L.Nodup→(∀ x ∈ L,x ∈ M)→L.length≤M.length
 | [],M,_,_=>Nat.zero_le _
 | a :: L,M,hn,hs=>by
  rw [List.nodup_cons] at hn
  have ha:=hs a (List.mem_cons_self ..)
  have ih:=sub_len (L:=L) (M:=M.erase a) hn.2 (fun x hx=>(List.mem_erase_of_ne (fun e=>hn.1 (by rw [← e];exact hx))).2 (hs x (List.mem_cons_of_mem _ hx)))
  rw [List.length_erase_of_mem ha] at ih
  have:=List.length_pos_of_mem ha
  simp only [List.length_cons]
  omega
theorem ix_le {N:List NdP} {t:QT} {l x y:Int} (h:Holds N l x y t) (hn:t.ix.Nodup):t.ix.length≤N.length:=by
 have h9:=sub_len (M:=List.range N.length) hn (fun i hi=>List.mem_range.2 (holds_lt t l x y h i hi))
 rwa [List.length_range] at h9
def OfR {α:Type} (id zm:α→Int) (R:List α) (QF:Int→List (Int × Sn)):Prop:=∀ z,(QF z).length≤R.length∧∀ p ∈ QF z,∃ r ∈ R,p.2.id=id r∧zm r=z
theorem OfR.dis {α:Type} {id zm:α→Int} {R:List α} {QF:Int→List (Int × Sn)} (h:OfR id zm R QF) (hn:(R.map id).Nodup):∀ z z',z≠z'→∀ p ∈ QF z,∀ q ∈ QF z',p.2.id≠q.2.id:=fun z z' hz p hp q hq e=>by
 obtain ⟨r,hr,e1,z1⟩:=(h z).2 p hp
 obtain ⟨r',hr',e2,z2⟩:=(h z').2 q hq
 have hid:id r=id r':=by rw [← e1,← e2,e]
 have hrr:r=r':=by
  clear h hp hq e e1 e2 z1 z2
  induction R with
  | nil=>cases hr
  | cons a R ih=>
   rw [List.map_cons,List.nodup_cons] at hn
   rcases List.mem_cons.1 hr with h1|h1 <;> rcases List.mem_cons.1 hr' with h2|h2
   ·rw [h1,h2]
   ·exact absurd (List.mem_map.2 ⟨r',h2,by rw [← hid,h1]⟩) hn.1
   ·exact absurd (List.mem_map.2 ⟨r,h1,by rw [hid,h2]⟩) hn.1
   ·exact ih hn.2 h1 h2
 exact hz (by rw [← z1,← z2,hrr])
theorem OfR.few {α:Type} {id zm:α→Int} {R:List α} {QF:Int→List (Int × Sn)} (h:OfR id zm R QF) (hR:R.length≤60):∀ P:List (Int × Sn),(P.map (fun p=>p.2.id)).Nodup→(∀ p ∈ P,∃ z,p ∈ QF z)→P.length≤64:=fun P hn hP=>by
 have h9:=sub_len (M:=R.map id) hn (fun x hx=>by
  obtain ⟨p,hp,rfl⟩:=List.mem_map.1 hx
  obtain ⟨z,hz⟩:=hP p hp
  obtain ⟨r,hr,e,_⟩:=(h z).2 p hz
  exact List.mem_map.2 ⟨r,hr,e.symm⟩)
 rw [List.length_map,List.length_map] at h9
 omega
section
variable {L:List Rl} {role tier px py:Int} {g:Gr} {R:List Rc} {S:List Sh}
theorem winQ_of:OfR (fun r:Rc=>r.id) (zmR L role tier) R (winQ L role tier g px py R):=fun z=>by
 unfold winQ
 refine ⟨by rw [List.length_map];exact Nat.le_trans (List.length_filter_le _ _) (List.length_filter_le _ _),fun p hp=>?_⟩
 obtain ⟨r,hr,rfl⟩:=List.mem_map.1 hp
 obtain ⟨h1,h2⟩:=List.mem_filter.1 hr
 unfold kpR at h2
 simp only [Bool.and_eq_true,beq_iff_eq] at h2
 exact ⟨r,(List.mem_filter.1 h1).1,rfl,h2.2⟩
theorem nearQ_of:OfR (fun r:Rc=>r.id) (zmR L role tier) R (nearQ L role tier g px py R):=fun z=>by
 unfold nearQ
 refine ⟨by rw [List.length_map];exact List.length_filter_le _ _,fun p hp=>?_⟩
 obtain ⟨r,hr,rfl⟩:=List.mem_map.1 hp
 obtain ⟨h1,h2⟩:=List.mem_filter.1 hr
 unfold kpR at h2
 simp only [Bool.and_eq_true,beq_iff_eq] at h2
 exact ⟨r,h1,rfl,h2.2⟩
theorem clkQ_of:OfR (fun r:Sh=>r.id) (zmS L role tier) S (clkQ L role tier g px py S):=fun z=>by
 unfold clkQ
 refine ⟨by rw [List.length_map];exact Nat.le_trans (List.length_filter_le _ _) (List.length_filter_le _ _),fun p hp=>?_⟩
 obtain ⟨r,hr,rfl⟩:=List.mem_map.1 hp
 obtain ⟨h1,h2⟩:=List.mem_filter.1 hr
 unfold kpS at h2
 simp only [Bool.and_eq_true,beq_iff_eq] at h2
 exact ⟨r,(List.mem_filter.1 h1).1,rfl,h2.2⟩
theorem nearcQ_of:OfR (fun r:Sh=>r.id) (zmS L role tier) S (nearcQ L role tier g px py S):=fun z=>by
 unfold nearcQ
 refine ⟨by rw [List.length_map];exact List.length_filter_le _ _,fun p hp=>?_⟩
 obtain ⟨r,hr,rfl⟩:=List.mem_map.1 hp
 obtain ⟨h1,h2⟩:=List.mem_filter.1 hr
 unfold kpS at h2
 simp only [Bool.and_eq_true,beq_iff_eq] at h2
 exact ⟨r,h1,rfl,h2.2⟩
end
def TopRow (L:List Rl) (role tier gz:Int) (QF:Int→List (Int × Sn)) (M:List Sn):Prop:=
 ∃ (LL:List En) (P:List (Int × Sn)) (xs:List Int),M=LL.map (snE (lookP P))∧LL.Perm (entP P)∧LL.Pairwise leE∧xs.Pairwise (· < ·)∧LevL L role tier 8 xs∧P.Perm (allQ gz QF xs)∧(P.map (fun p=>p.2.id)).Nodup
theorem row_take {L:List Rl} {role tier gz px py:Int} {QW QN:Int→List (Int × Sn)} {M M':List Sn} (hg:0≤gz∧gz≤16) (hw:TopRow L role tier gz QW M) (hn:TopRow L role tier gz QN M') (hq:∀ z,0≤min z gz→min z gz≤16→QW z=(QN z).filter k0P) (hk:∀ z,∀ p ∈ QN z,p.1=dstS px py p.2):
  M=M'.takeWhile (fun s=>decide (dstS px py s=0)):=by
 obtain ⟨LL,P,xs,rfl,h1,h2,h3,h4,h5,h6⟩:=hw
 obtain ⟨LL',P',xs',rfl,h1',h2',h3',h4',h5',h6'⟩:=hn
 obtain rfl:=lev_one h4 h4' h3 h3'
 refine near_take (fun p hp=>?_) ?_ h6' h6 h1 h2 h1' h2'
 ·obtain ⟨z,_,hz⟩:=allQ_mem (h5'.mem_iff.1 hp)
  have e:=hk z p hz
  exact ⟨e,by rw [e];exact dist_nonneg _ _ _ _ _ _⟩
 ·rw [allQ_take (QN:=QN) (fun z hz _=>by have:=lev_rng h4 z hz;exact hq z (by omega) (by omega))] at h5
  exact h5.trans (h5'.symm.filter _)
theorem right_gz {role tier:Int} {g:Gr} (h:rightW role tier g=true):0≤g.zoom∧g.zoom≤16:=by
 unfold rightW at h
 simp only [Bool.and_eq_true] at h
 have:=rightG_iff.1 h.2
 omega
theorem win_take {L:List Rl} {role tier px py:Int} {g:Gr} {R:List Rc} {M M':List Sn} (hrw:rightW role tier g=true) (hf:fitsB px py=true) (hw:TopRow L role tier g.zoom (winQ L role tier g px py R) M) (hn:TopRow L role tier g.zoom (nearQ L role tier g px py R) M'):M=M'.takeWhile (fun s=>decide (dstS px py s=0)):=
 row_take (right_gz hrw) hw hn (fun z h0 h1=>list_take (fun r hk=>in_dist hf h0 h1 hk) R) (fun z p hp=>by
  obtain ⟨r,_,rfl⟩:=List.mem_map.1 hp
  rfl)
theorem clk_take {L:List Rl} {role tier px py:Int} {g:Gr} {S:List Sh} {M M':List Sn} (hrw:rightW role tier g=true) (hf:fitsB px py=true) (hw:TopRow L role tier g.zoom (clkQ L role tier g px py S) M) (hn:TopRow L role tier g.zoom (nearcQ L role tier g px py S) M'):M=M'.takeWhile (fun s=>decide (dstS px py s=0)):=
 row_take (right_gz hrw) hw hn (fun z h0 h1=>list_take (fun r hk=>met_dist hf h0 h1 hk) S) (fun z p hp=>by
  obtain ⟨r,_,rfl⟩:=List.mem_map.1 hp
  rfl)
def WS (lo qt bt:Nat) (L:List Rl) (s q:Nat) (C:Option Addr) (cc:Nat) (N:List NdP) (t:QT) (R:List Rc) (qc bm z:Nat) (tt:CT) (S:List Sh) (kt:Nat) (w:World):Prop:=
 Tb w lo qt bt kt L∧PtI w s q C cc N t R∧CtI w qc bm z tt S
def RwPost (lo qt bt:Nat) (L:List Rl) (s q:Nat) (C:Option Addr) (cc:Nat) (N:List NdP) (t:QT) (R:List Rc) (qc bm z:Nat) (tt:CT) (S:List Sh) (kt K:Nat) (role tier:Int) (g:Gr) (QF:Int→List (Int × Sn)) (w:World) (e:Ending) (w':World):Prop:=
 ∃ A ca M er kt',e = .returned (.tuple #[.slice A (M:List Sn).length ca, .int .i64 er])∧WS lo qt bt L s q C cc N t R qc bm z tt S kt' w'∧kt'≤kt+8+17*K∧Sns w' w'.heap.size A M∧(M.length≤ca∧M.length≤64)∧(∀ a,A=some a→w.heap.size≤a.block)∧er=(if rightW role tier g=true then 0 else 1)∧(rightW role tier g=true→TopRow L role tier g.zoom QF M)∧(rightW role tier g=false→M=[])∧Chg (fun j=>j=bt) w w'
section
variable {lo qt bt:Nat} {L:List Rl} {s q:Nat} {C:Option Addr} {cc:Nat} {N:List NdP} {t:QT} {R:List Rc} {qc bm z:Nat} {tt:CT} {S:List Sh} {kt K:Nat} {role tier:Int} {g:Gr} {QF:Int→List (Int × Sn)} {w w':World} {e:Ending}
theorem WS.chg {kt':Nat} (h:WS lo qt bt L s q C cc N t R qc bm z tt S kt w) (hX:∀ j,(PX q C N j∨j=s)→j≠bt) (hY:∀ j,(CX bm tt j∨j=qc)→j≠bt) (hc:Chg (fun j=>j=bt) w w') (ht:Tb w' lo qt bt kt' L):WS lo qt bt L s q C cc N t R qc bm z tt S kt' w':=
 ⟨ht,h.2.1.chg hc (fun j hj e=>hX j (.inl hj) e) (fun e=>hX s (.inr rfl) e),h.2.2.chg hc (fun e=>hY qc (.inr rfl) e) (fun j hj e=>hY j (.inl hj) e)⟩
theorem row_of (h:WS lo qt bt L s q C cc N t R qc bm z tt S kt w) (hX:∀ j,(PX q C N j∨j=s)→j≠bt) (hY:∀ j,(CX bm tt j∨j=qc)→j≠bt) (hrw:rightW role tier g=true) (hPl:∀ P:List (Int × Sn),(P.map (fun p=>p.2.id)).Nodup→(∀ p ∈ P,∃ z,p ∈ QF z)→P.length≤64) (hp:TopPost lo qt bt kt L role tier g.zoom K QF w e w'):RwPost lo qt bt L s q C cc N t R qc bm z tt S kt K role tier g QF w e w':=by
 obtain ⟨A,ca,LL,P,xs,n',rfl,hown,h1,h2,h3,h4,h5,h6,h7,h8,h9⟩:=hp
 have hlen:LL.length≤64:=by
  have hl:=h1.length_eq
  rw [entP_len] at hl
  have:=hPl P h6 (fun p hp=>by obtain ⟨z,_,hz⟩:=allQ_mem (h5.mem_iff.1 hp);exact ⟨z,hz⟩)
  omega
 have hcap:LL.length≤ca:=by
  obtain ⟨_,⟨h0,h0'⟩|⟨_,cap,_,hv,_,_,hle,_⟩⟩:=hown
  ·omega
  ·injection hv with _ _ hv;omega
 have hlt:=hown.lt
 refine ⟨A,ca,LL.map (snE (lookP P)),0,n',by rw [List.length_map],h.chg hX hY h9 h7,h8,sns_own hown (List.length_map ..),⟨by rw [List.length_map];exact hcap,by rw [List.length_map];exact hlen⟩,fun a ha=>?_,by rw [if_pos hrw],fun _=>⟨LL,P,xs,rfl,h1,h2,h3,h4,h5,h6⟩,(fun e=>by rw [hrw] at e;cases e),h9⟩
 exact (hlt a.block (by rw [ha];rfl)).1
theorem row_no (h:WS lo qt bt L s q C cc N t R qc bm z tt S kt w) (hX:∀ j,(PX q C N j∨j=s)→j≠bt) (hY:∀ j,(CX bm tt j∨j=qc)→j≠bt) (hrw:rightW role tier g=false) (he:e = .returned (.tuple #[.slice none 0 0, .int .i64 1])) (hb:Below w.heap.size w w'):RwPost lo qt bt L s q C cc N t R qc bm z tt S kt K role tier g QF w e w':=
 ⟨none,0,[],1,kt,he,h.chg hX hY (Chg.of hb) (h.1.keep hb),by omega,fun h=>absurd h (by simp),⟨by simp,by simp⟩,(fun a e=>by cases e),by rw [if_neg (by rw [hrw];simp)],(fun e=>by rw [hrw] at e;cases e),fun _=>rfl,Chg.of hb⟩
end
theorem pb_le {L:List Rl} (h:cntB L≤1048576):patsB L≤100000000000000:=by
 have h9:=Nat.mul_le_mul (Nat.mul_le_mul_left 2 h) (Nat.mul_le_mul_left 2 h)
 unfold patsB
 omega
theorem row_win (lo qt bt:Nat) (L:List Rl) (s q:Nat) (C:Option Addr) (cc:Nat) (N:List NdP) (t:QT) (R:List Rc) (qc bm z:Nat) (tt:CT) (S:List Sh) (kt:Nat) (role tier px py:Int) (g:Gr) (w:World) (h:WS lo qt bt L s q C cc N t R qc bm z tt S kt w) (hX:∀ j,(PX q C N j∨j=s)→j≠bt) (hY:∀ j,(CX bm tt j∨j=qc)→j≠bt) (hR:R.length≤60) (hS:S.length≤60) (hcnt:cntB L≤1048576) (hn1:L.length≤1000000) (hf:fitsB px py=true) (hkt:kt+8+18*120≤350000):
  Calls Tryz.prog 11 #[(.agg #[.pointer (some ⟨q,0,none⟩), .pointer (some ⟨qc,0,none⟩), .pointer (some ⟨qt,0,none⟩)]),(.agg #[.int .i64 role, .int .i64 tier, .int .i64 g.ops, .int .i64 g.zoom, .int .i64 g.a, .int .i64 g.b, .int .i64 g.c, .int .i64 g.d, .bool g.void, .int .i64 g.til]), .agg #[.int .i64 px, .int .i64 py, .int .i64 px, .int .i64 py], .int .i64 64] w (RwPost lo qt bt L s q C cc N t R qc bm z tt S kt 120 role tier g (winQ L role tier g px py R) w):=by
 cases hrw:rightW role tier g with
 | true=>
  exact (top_win lo qt bt kt L role tier g q qc px py 120 (fun w=>PtI w s q C cc N t R) (fun j=>PX q C N j∨j=s) ⟨fun h hc hX=>h.chg hc (fun j hj=>hX j (.inl hj)) (hX s (.inr rfl))⟩ (winQ L role tier g px py R) w h.1 hcnt hn1 (pb_le hcnt) hrw hf h.2.1 (fun j hj=>⟨h.2.1.pxl j hj,hX j hj⟩)
   (fun wb vb rb fb f fq m B hSX hfb=>wincb_any lo qt bt L role tier g wb vb rb fb f fq m q qc s cc C N t R px py 120 B hcnt hn1 hR hf (by omega) hSX hfb)
   (winQ_of.dis h.2.1.ids) (fun z=>Nat.le_trans (winQ_of z).1 hR) hkt (winQ_of.few hR)).mono (fun e w' hp=>row_of h hX hY hrw (winQ_of.few hR) hp)
 | false=>exact (topno_win qt role tier g q qc px py w hrw hf).mono (fun e w' hp=>row_no h hX hY hrw hp.1 hp.2)
theorem row_near (lo qt bt:Nat) (L:List Rl) (s q:Nat) (C:Option Addr) (cc:Nat) (N:List NdP) (t:QT) (R:List Rc) (qc bm z:Nat) (tt:CT) (S:List Sh) (kt:Nat) (role tier px py:Int) (g:Gr) (w:World) (h:WS lo qt bt L s q C cc N t R qc bm z tt S kt w) (hX:∀ j,(PX q C N j∨j=s)→j≠bt) (hY:∀ j,(CX bm tt j∨j=qc)→j≠bt) (hR:R.length≤60) (hS:S.length≤60) (hcnt:cntB L≤1048576) (hn1:L.length≤1000000) (hf:fitsB px py=true) (hkt:kt+8+18*8000≤350000):
  Calls Tryz.prog 12 #[(.agg #[.pointer (some ⟨q,0,none⟩), .pointer (some ⟨qc,0,none⟩), .pointer (some ⟨qt,0,none⟩)]),(.agg #[.int .i64 role, .int .i64 tier, .int .i64 g.ops, .int .i64 g.zoom, .int .i64 g.a, .int .i64 g.b, .int .i64 g.c, .int .i64 g.d, .bool g.void, .int .i64 g.til]), .agg #[.int .i64 px, .int .i64 py], .int .i64 64] w (RwPost lo qt bt L s q C cc N t R qc bm z tt S kt 8000 role tier g (nearQ L role tier g px py R) w):=by
 cases hrw:rightW role tier g with
 | true=>
  have hw1:=wt_le t
  have hw2:=ix_le h.2.1.tr h.2.1.nod
  have hw3:=h.2.1.len
  have hw4:=h.2.1.recs.length_eq
  exact (top_near lo qt bt kt L role tier g q qc px py 8000 (fun w=>PtI w s q C cc N t R) (fun j=>PX q C N j∨j=s) ⟨fun h hc hX=>h.chg hc (fun j hj=>hX j (.inl hj)) (hX s (.inr rfl))⟩ (nearQ L role tier g px py R) w h.1 hcnt hn1 (pb_le hcnt) hrw hf h.2.1 (fun j hj=>⟨h.2.1.pxl j hj,hX j hj⟩)
   (fun wb vb pb mb fb f fq m B hSX hfb=>nearcb_any lo qt bt L role tier g wb vb pb mb fb f fq m q qc s cc C N t R px py 8000 B hcnt hn1 hR hf (by omega) hSX hfb)
   (nearQ_of.dis h.2.1.ids) (fun z=>Nat.le_trans (nearQ_of z).1 hR) hkt (nearQ_of.few hR)).mono (fun e w' hp=>row_of h hX hY hrw (nearQ_of.few hR) hp)
 | false=>exact (topno_near qt role tier g q qc px py w hrw hf).mono (fun e w' hp=>row_no h hX hY hrw hp.1 hp.2)
theorem row_clk (lo qt bt:Nat) (L:List Rl) (s q:Nat) (C:Option Addr) (cc:Nat) (N:List NdP) (t:QT) (R:List Rc) (qc bm z:Nat) (tt:CT) (S:List Sh) (kt:Nat) (role tier px py:Int) (g:Gr) (w:World) (h:WS lo qt bt L s q C cc N t R qc bm z tt S kt w) (hX:∀ j,(PX q C N j∨j=s)→j≠bt) (hY:∀ j,(CX bm tt j∨j=qc)→j≠bt) (hR:R.length≤60) (hS:S.length≤60) (hcnt:cntB L≤1048576) (hn1:L.length≤1000000) (hf:fitsB px py=true) (hkt:kt+8+18*120≤350000):
  Calls Tryz.prog 13 #[(.agg #[.pointer (some ⟨q,0,none⟩), .pointer (some ⟨qc,0,none⟩), .pointer (some ⟨qt,0,none⟩)]),(.agg #[.int .i64 role, .int .i64 tier, .int .i64 g.ops, .int .i64 g.zoom, .int .i64 g.a, .int .i64 g.b, .int .i64 g.c, .int .i64 g.d, .bool g.void, .int .i64 g.til]), .agg #[.int .i64 px, .int .i64 py, .int .i64 px, .int .i64 py], .int .i64 64] w (RwPost lo qt bt L s q C cc N t R qc bm z tt S kt 120 role tier g (clkQ L role tier g px py S) w):=by
 cases hrw:rightW role tier g with
 | true=>
  exact (top_clk lo qt bt kt L role tier g q qc px py 120 (fun w=>CtI w qc bm z tt S) (fun j=>CX bm tt j∨j=qc) ⟨fun h hc hX=>h.chg hc (hX qc (.inr rfl)) (fun j hj=>hX j (.inl hj))⟩ (clkQ L role tier g px py S) w h.1 hcnt hn1 (pb_le hcnt) hrw hf h.2.2 (fun j hj=>⟨hj.elim (fun e=>(h.2.2.far j e).1) (fun e=>by rw [e];exact h.2.2.lt),hY j hj⟩)
   (fun wb vb rb fb f fq m B hSX hfb=>clkcb_any lo qt bt L role tier g wb vb rb fb f fq m q qc bm z tt S px py 120 B hcnt hn1 hS hf (by omega) hSX hfb)
   (clkQ_of.dis h.2.2.ids) (fun z=>Nat.le_trans (clkQ_of z).1 hS) hkt (clkQ_of.few hS)).mono (fun e w' hp=>row_of h hX hY hrw (clkQ_of.few hS) hp)
 | false=>exact (topno_clk qt role tier g q qc px py w hrw hf).mono (fun e w' hp=>row_no h hX hY hrw hp.1 hp.2)
theorem row_nearc (lo qt bt:Nat) (L:List Rl) (s q:Nat) (C:Option Addr) (cc:Nat) (N:List NdP) (t:QT) (R:List Rc) (qc bm z:Nat) (tt:CT) (S:List Sh) (kt:Nat) (role tier px py:Int) (g:Gr) (w:World) (h:WS lo qt bt L s q C cc N t R qc bm z tt S kt w) (hX:∀ j,(PX q C N j∨j=s)→j≠bt) (hY:∀ j,(CX bm tt j∨j=qc)→j≠bt) (hR:R.length≤60) (hS:S.length≤60) (hcnt:cntB L≤1048576) (hn1:L.length≤1000000) (hf:fitsB px py=true) (hkt:kt+8+18*180≤350000):
  Calls Tryz.prog 14 #[(.agg #[.pointer (some ⟨q,0,none⟩), .pointer (some ⟨qc,0,none⟩), .pointer (some ⟨qt,0,none⟩)]),(.agg #[.int .i64 role, .int .i64 tier, .int .i64 g.ops, .int .i64 g.zoom, .int .i64 g.a, .int .i64 g.b, .int .i64 g.c, .int .i64 g.d, .bool g.void, .int .i64 g.til]), .agg #[.int .i64 px, .int .i64 py], .int .i64 64] w (RwPost lo qt bt L s q C cc N t R qc bm z tt S kt 180 role tier g (nearcQ L role tier g px py S) w):=by
 cases hrw:rightW role tier g with
 | true=>
  exact (top_nearc lo qt bt kt L role tier g q qc px py 180 (fun w=>CtI w qc bm z tt S) (fun j=>CX bm tt j∨j=qc) ⟨fun h hc hX=>h.chg hc (hX qc (.inr rfl)) (fun j hj=>hX j (.inl hj))⟩ (nearcQ L role tier g px py S) w h.1 hcnt hn1 (pb_le hcnt) hrw hf h.2.2 (fun j hj=>⟨hj.elim (fun e=>(h.2.2.far j e).1) (fun e=>by rw [e];exact h.2.2.lt),hY j hj⟩)
   (fun wb vb pb mb fb f fq m B hSX hfb=>nearccb_any lo qt bt L role tier g wb vb pb mb fb f fq m q qc bm z tt S px py 180 B hcnt hn1 hS hf (by omega) hSX hfb)
   (nearcQ_of.dis h.2.2.ids) (fun z=>Nat.le_trans (nearcQ_of z).1 hS) hkt (nearcQ_of.few hS)).mono (fun e w' hp=>row_of h hX hY hrw (nearcQ_of.few hS) hp)
 | false=>exact (topno_nearc qt role tier g q qc px py w hrw hf).mono (fun e w' hp=>row_no h hX hY hrw hp.1 hp.2)
structure Stay (B S:Nat) (w w':World):Prop where
 size:w.heap.size≤w'.heap.size
 same:∀ k,k < w.heap.size→k < B∨S≤k→w'.heap[k]? = w.heap[k]?
theorem Stay.refl (B S:Nat) (w:World):Stay B S w w:=⟨Nat.le_refl _,fun _ _ _=>rfl⟩
theorem own_stay {w w':World} {base n size:Nat} {e:TypeId} {v:Value} {xs:List Value} (h:w.ownsRow base e size v n xs) (hs:∀ k,v.ownBlock=some k→w'.heap[k]? = w.heap[k]?):w'.ownsRow base e size v n xs:=by
 refine ⟨h.1,?_⟩
 rcases h.2 with hn|⟨g,cap,cur,rfl,hbase,hg,rest⟩
 ·exact .inl hn
 ·exact .inr ⟨g,cap,cur,rfl,hbase,(hs g rfl).trans hg,rest⟩
def key2 (a b:Nat):Value := .agg #[.int .u64 (a:Nat), .int .u64 (b:Nat)]
theorem key2_inj {a b a' b':Nat} (h:key2 a b=key2 a' b'):a=a'∧b=b':=by
 unfold key2 at h
 simp at h
 omega
theorem k2_row:(136:TypeId) < Tryz.prog.types.size:=of_decide_eq_true (by kernel_rfl)
theorem k2_wide:(match Tryz.prog.underlying 136 with|some (.array _ _)|some (.struct _)=>true|_=>false)=true:=by rw [Tryz.underlying136]
theorem k2_law:WideMaps.KeyLaw Tryz.prog 136:=deep_law_laid (show laidOutB Tryz.prog=true by kernel_rfl) (m:=2) (by omega) k2_row (by kernel_rfl) k2_wide
theorem k2_keyed:Keyed Tryz.prog 136:=Keyed.of_law k2_law
theorem k2_type:Tryz.prog.keyType 136=true:=by kernel_rfl
theorem k2_size:∃ m,Tryz.prog.types.size+1=m+3:=⟨Tryz.prog.types.size - 2,by have h:=k2_row;have:3≤Tryz.prog.types.size:=Nat.le_trans (by decide) h;omega⟩
theorem k2_cells:Tryz.prog.cellsOf 136=2:=by kernel_rfl
theorem u1_cells:Tryz.prog.cellsOf 99=1:=by kernel_rfl
theorem izero2 (w:World):(zeroValue 3).run Tryz.prog w = .ok (.int .i64 0) w:=by kernel_rfl
theorem u64_lit {a:Nat} (h:a < 18446744073709551616):(Lit.int .u64 (a:Int)).wf=true:=by
 simp only [Lit.wf,Bool.and_eq_true,decide_eq_true_eq]
 show (0:Int)≤a∧(a:Int)≤18446744073709551615
 omega
theorem keyOf_two {a b:Nat} (ha:a < 18446744073709551616) (hb:b < 18446744073709551616):∃ kl,keyOf Tryz.prog 136 (key2 a b)=some kl:=by
 obtain ⟨m,hm⟩:=k2_size
 have h1:=u64_lit ha
 have h2:=u64_lit hb
 unfold keyOf key2
 rw [Tryz.underlying136]
 simp only [k2_type,Value.formed,Tryz.underlying136,k2_cells,hm]
 simp [Program.keyLits,Tryz.underlying136,Tryz.underlying99,k2_cells,u1_cells,Value.cells,h1,h2]
def M2 (w:World) (b n:Nat) (S:Nat→Nat→Option Int):Prop:=
 ∃ D:DataW Value,w.ownsMap Tryz.prog 136 heldV b n D∧IsMap D∧∀ u v kl,keyOf Tryz.prog 136 (key2 u v)=some kl→has D kl=(S u v).isSome∧∀ z,S u v=some z→∀ zd,D.atKey kl zd = .held (.int .i64 z)
section
variable {w w':World} {b n:Nat} {S:Nat→Nat→Option Int}
theorem M2.lt (h:M2 w b n S):b < w.heap.size:=by
 obtain ⟨D,h,_⟩:=h
 exact h.lt
theorem M2.same (h:M2 w b n S) (e:w'.heap[b]? = w.heap[b]?):M2 w' b n S:=by
 obtain ⟨D,⟨es,cl,h,r⟩,h2⟩:=h
 exact ⟨D,⟨es,cl,e.trans h,r⟩,h2⟩
theorem M2.mono (h:M2 w b n S) {m:Nat} (hm:n≤m):M2 w b m S:=by
 obtain ⟨D,h,r⟩:=h
 exact ⟨D,h.mono hm,r⟩
theorem M2.look (h:M2 w b n S) {u v:Nat} (hu:u < 18446744073709551616) (hv:v < 18446744073709551616):(Instr.lookup 132 (.map (some b)) (key2 u v) false).run Tryz.prog w = .ok (.int .i64 ((S u v).getD 0)) w:=by
 obtain ⟨D,h,hm,hat⟩:=h
 obtain ⟨kl,hk⟩:=keyOf_two hu hv
 obtain ⟨y,ps,hrun,hy⟩:=h.lookup k2_keyed Tryz.underlying132 (izero2 w) (zd := .held (.int .i64 0)) (zp:=[]) rfl hk
 obtain ⟨h1,h2⟩:=hat u v kl hk
 rw [hrun]
 cases hS:S u v with
 | none=>
  rw [hS] at h1
  rw [atKey_of_not_has (by rw [h1];rfl)] at hy
  rw [heldV_inv hy]
  rfl
 | some z=>
  rw [h2 z hS] at hy
  rw [heldV_inv hy]
  rfl
theorem M2.put (h:M2 w b n S) (hn:n < 9223372036854775807) {u v:Nat} (hu:u < 18446744073709551616) (hv:v < 18446744073709551616) (z:Int):
  ∃ w',(Instr.mapUpdate 132 (.map (some b)) (key2 u v) (.int .i64 z)).run Tryz.prog w = .ok () w'∧M2 w' b (n+1) (fun x y=>if x=u∧y=v then some z else S x y)∧w.grownBy w' (some b):=by
 obtain ⟨D,h,hm,hat⟩:=h
 obtain ⟨kl,hk⟩:=keyOf_two hu hv
 obtain ⟨w',hrun,h1,h2⟩:=h.update k2_keyed Tryz.underlying132 (by unfold maxLen;omega) hk (val := .int .i64 z) (d := .held (.int .i64 z)) (ps:=[]) rfl
 refine ⟨w',hrun,⟨_,h1,hm.put _ _,fun x y kl' hk'=>?_⟩,h2⟩
 by_cases e:x=u∧y=v
 ·obtain ⟨rfl,rfl⟩:=e
  have:kl'=kl:=by rw [hk] at hk';injection hk' with hk';exact hk'.symm
  subst this
  simp only [and_self,if_true]
  refine ⟨has_put_same hm (k2_keyed.key hk) _,fun q hq zd=>?_⟩
  injection hq with hq
  subst hq
  exact atKey_put_same hm (k2_keyed.key hk) _ _
 ·have hne:kl'≠kl:=fun he=>e (key2_inj (k2_keyed.inj (he ▸ hk') hk))
  simp only [e,if_false]
  obtain ⟨h3,h4⟩:=hat x y kl' hk'
  exact ⟨(has_put_other hne _).trans h3,fun q hq zd=>by rw [atKey_put_other hne];exact h4 q hq zd⟩
end
def riseNo (L1 L2:List Rl) (r t l:Int):Prop:=∀ x y,zoomF (mineR L2 r t l) x y≤zoomF (mineR L1 r t l) x y
structure Wh (w:World) (s k m cc:Nat) (C:Option Addr) (O:List Sp) (S:Nat→Nat→Option Int) (A1 A2:Option Addr) (c1 c2:Nat) (L1 L2:List Rl):Prop where
 sz:s+7≤w.heap.size
 g0:w.cell? ⟨s,0,none⟩=some (.slice A1 L1.length c1)
 g1:w.cell? ⟨s+1,0,none⟩=some (.slice A2 L2.length c2)
 g2:w.cell? ⟨s+2,0,none⟩=some (.int .i64 512)
 g3:w.cell? ⟨s+3,0,none⟩=some (.func (.func 25) #[] #[])
 g4:w.cell? ⟨s+4,0,none⟩=some (.slice C m cc)
 z4:w.frozen? ⟨s+4,0,none⟩=false
 g6:w.cell? ⟨s+6,0,none⟩=some (.map (some (s+5)))
 own:w.ownsRow (s+7) 46 3 (.slice C m cc) m (spV O)
 len:O.length=m
 map:M2 w (s+5) k S
def WhInv (S:Nat→Nat→Option Int) (L1 L2:List Rl):Prop:=∀ u v z,S u v=some z→(z=1∧∀ r t l,maskN L1 r t l L1.length=u→maskN L2 r t l L2.length=v→riseNo L1 L2 r t l)∨z=2
theorem WhInv.put {S:Nat→Nat→Option Int} {L1 L2:List Rl} {u v:Nat} {z:Int} (h:WhInv S L1 L2) (hz:(z=1∧∀ r t l,maskN L1 r t l L1.length=u→maskN L2 r t l L2.length=v→riseNo L1 L2 r t l)∨z=2):WhInv (fun x y=>if x=u∧y=v then some z else S x y) L1 L2:=fun x y q hq=>by
 simp only at hq
 split at hq
 ·rename_i e
  obtain ⟨rfl,rfl⟩:=e
  injection hq with hq
  subst hq
  exact hz
 ·exact h x y q hq
section
variable {w w':World} {s k m cc c1 c2:Nat} {C A1 A2:Option Addr} {O:List Sp} {S:Nat→Nat→Option Int} {L1 L2:List Rl}
theorem Wh.keep (h:Wh w s k m cc C O S A1 A2 c1 c2 L1 L2) (hb:Below w.heap.size w w'):Wh w' s k m cc C O S A1 A2 c1 c2 L1 L2:=by
 have hs:=h.sz
 refine ⟨Nat.le_trans hs hb.size,?_,?_,?_,?_,?_,?_,?_,own_keep h.own hb,h.len,h.map.same (hb.block _ (by omega))⟩
 ·exact (hb.cell (p:=⟨s,0,none⟩) (by show s < _;omega)).trans h.g0
 ·exact (hb.cell (p:=⟨s+1,0,none⟩) (by show s+1 < _;omega)).trans h.g1
 ·exact (hb.cell (p:=⟨s+2,0,none⟩) (by show s+2 < _;omega)).trans h.g2
 ·exact (hb.cell (p:=⟨s+3,0,none⟩) (by show s+3 < _;omega)).trans h.g3
 ·exact (hb.cell (p:=⟨s+4,0,none⟩) (by show s+4 < _;omega)).trans h.g4
 ·exact (hb.frozen (p:=⟨s+4,0,none⟩) (by show s+4 < _;omega)).trans h.z4
 ·exact (hb.cell (p:=⟨s+6,0,none⟩) (by show s+6 < _;omega)).trans h.g6
theorem Wh.put {u v:Nat} {z:Int} (h:Wh w s k m cc C O S A1 A2 c1 c2 L1 L2) (hm:M2 w' (s+5) (k+1) (fun x y=>if x=u∧y=v then some z else S x y)) (hg:w.grownBy w' (some (s+5))):Wh w' s (k+1) m cc C O (fun x y=>if x=u∧y=v then some z else S x y) A1 A2 c1 c2 L1 L2:=by
 have hs:=h.sz
 have far:∀ j,j < w.heap.size→j≠s+5→w'.heap[j]? = w.heap[j]? := fun j hj hne=>hg.block j hj (fun e=>by injection e with e;exact hne e)
 refine ⟨Nat.le_trans hs hg.size,?_,?_,?_,?_,?_,?_,?_,own_stay h.own (fun j hj=>far j (h.own.lt j hj).2 (by have:=(h.own.lt j hj).1;omega)),h.len,hm⟩
 ·exact (World.cell?_of_block (a:=⟨s,0,none⟩) (far s (by omega) (by omega))).trans h.g0
 ·exact (World.cell?_of_block (a:=⟨s+1,0,none⟩) (far (s+1) (by omega) (by omega))).trans h.g1
 ·exact (World.cell?_of_block (a:=⟨s+2,0,none⟩) (far (s+2) (by omega) (by omega))).trans h.g2
 ·exact (World.cell?_of_block (a:=⟨s+3,0,none⟩) (far (s+3) (by omega) (by omega))).trans h.g3
 ·exact (World.cell?_of_block (a:=⟨s+4,0,none⟩) (far (s+4) (by omega) (by omega))).trans h.g4
 ·exact (World.frozen?_of_block (a:=⟨s+4,0,none⟩) (far (s+4) (by omega) (by omega))).trans h.z4
 ·exact (World.cell?_of_block (a:=⟨s+6,0,none⟩) (far (s+6) (by omega) (by omega))).trans h.g6
end
def Vis (L1 L2:List Rl) (O:List Sp) (n:Nat):Prop:=∀ r t l:Nat,r < 8→t < 8→l < 8→64*r+8*t+l < n→(⟨r,t,l⟩:Sp) ∈ O∨riseNo L1 L2 r t l
theorem Vis.step {L1 L2:List Rl} {O O':List Sp} {R T Lb n:Nat} (h:Vis L1 L2 O n) (hO:∀ x ∈ O,x ∈ O') (hn:n=64*R+8*T+Lb) (hT:T < 8) (hl:Lb < 8) (hx:(⟨R,T,Lb⟩:Sp) ∈ O'∨riseNo L1 L2 R T Lb):Vis L1 L2 O' (n+1):=fun r t l hr ht hl' hlt=>by
 by_cases he:64*r+8*t+l < n
 ·rcases h r t l hr ht hl' he with h9|h9
  ·exact .inl (hO _ h9)
  ·exact .inr h9
 ·have e1:r=R:=by omega
  have e2:t=T:=by omega
  have e3:l=Lb:=by omega
  subst e1 e2 e3
  exact hx
def SeenOk:Prop:=∀ Y:World,Calls Tryz.prog 5 #[] Y fun e w'=>e = .returned (.bool true)∧Below Y.heap.size Y w'
end Go.Proofs.YthlijfligikciaaGreat
