/- A part of one proof: PgE. No condition. -/
import Derived.Test.YthlijfligikciaaGreatY45
namespace Go.Proofs.YthlijfligikciaaGreat
open Go.RowKit Go.Maps
set_option linter.unusedSimpArgs false
set_option linter.unusedVariables false
set_option maxRecDepth 2000
def TopPost (lo qt bt kt:Nat) (L:List Rl) (role tier gz:Int) (K:Nat) (QF:Int→List (Int × Sn)) (w:World) (e:Ending) (w':World):Prop:=
 ∃ A ca LL P' xs n',e = .returned (.tuple #[.slice A (LL:List En).length ca, .int .i64 0])∧w'.ownsRow w.heap.size 48 6 (.slice A LL.length ca) LL.length (snF (LL.map (snE (lookP P'))))∧LL.Perm (entP P')∧LL.Pairwise leE∧xs.Pairwise (· < ·)∧LevL L role tier 8 xs∧P'.Perm (allQ gz QF xs)∧(P'.map (fun p=>p.2.id)).Nodup∧Tb w' lo qt bt n' L∧n'≤kt+8+17*K∧Chg (fun j=>j=bt) w w'
theorem Fg.ends {w:World} {f fq m n:Nat} {C:Option Addr} {P:List (Int × Sn)} (h:(P.map (fun p=>p.2.id)).Nodup) (hw:∀ p ∈ P,wf64 p.2.id):∀ e ∈ entP P,(lookP P e.item).isSome=true∧wf64 e.item:=fun e he=>by
 obtain ⟨p,hp,rfl⟩:=List.mem_map.1 he
 exact ⟨by rw [lookP_at h hp];rfl,hw p hp⟩
def WStG (q qc qt wb vb rb fb f:Nat) (role tier px py:Int) (g:Gr) (St2:World→Prop) (w:World):Prop:=
 Wb w wb (some ⟨q,0,none⟩) (some ⟨qc,0,none⟩) qt∧Vb w vb role tier g∧(Rb w rb px py px py∧w.cell? ⟨fb,0,none⟩=some (.pointer (some ⟨f,0,none⟩)))∧St2 w
def WSXG (wb vb rb fb:Nat) (SX2:Nat→Prop):Nat→Prop:=fun j=>j=wb∨j=vb∨j=rb∨j=fb∨SX2 j
theorem wstg_stab {q qc qt wb vb rb fb f:Nat} {role tier px py:Int} {g:Gr} {St2:World→Prop} {SX2:Nat→Prop} (hs:Stab St2 SX2):Stab (WStG q qc qt wb vb rb fb f role tier px py g St2) (WSXG wb vb rb fb SX2) where
 st:=fun {X w w'} h hc hX=>⟨h.1.chg hc (hX _ (.inl rfl)),h.2.1.chg hc (hX _ (.inr (.inl rfl))),⟨h.2.2.1.1.chg hc (hX _ (.inr (.inr (.inl rfl)))),(hc.cell (p:=⟨fb,0,none⟩) (cell_lt h.2.2.1.2) (hX _ (.inr (.inr (.inr (.inl rfl)))))).trans h.2.2.1.2⟩,hs.st h.2.2.2 hc (fun j hj=>hX j (.inr (.inr (.inr (.inr hj)))))⟩
def NStG (q qc qt wb vb pb mb fb f:Nat) (role tier px py:Int) (g:Gr) (St2:World→Prop) (w:World):Prop:=
 Wb w wb (some ⟨q,0,none⟩) (some ⟨qc,0,none⟩) qt∧Vb w vb role tier g∧Bb w pb mb fb f px py 64∧St2 w
def NSXG (wb vb pb mb fb:Nat) (SX2:Nat→Prop):Nat→Prop:=fun j=>j=wb∨j=vb∨j=pb∨j=mb∨j=fb∨SX2 j
theorem nstg_stab {q qc qt wb vb pb mb fb f:Nat} {role tier px py:Int} {g:Gr} {St2:World→Prop} {SX2:Nat→Prop} (hs:Stab St2 SX2):Stab (NStG q qc qt wb vb pb mb fb f role tier px py g St2) (NSXG wb vb pb mb fb SX2) where
 st:=fun {X w w'} h hc hX=>⟨h.1.chg hc (hX _ (.inl rfl)),h.2.1.chg hc (hX _ (.inr (.inl rfl))),h.2.2.1.chg hc (hX _ (.inr (.inr (.inl rfl)))) (hX _ (.inr (.inr (.inr (.inl rfl))))) (hX _ (.inr (.inr (.inr (.inr (.inl rfl)))))),hs.st h.2.2.2 hc (fun j hj=>hX j (.inr (.inr (.inr (.inr (.inr hj))))))⟩
set_option maxHeartbeats 16000000 in
theorem top_win (lo qt bt kt:Nat) (L:List Rl) (role tier:Int) (g:Gr) (q qc:Nat) (px py:Int) (K:Nat) (St2:World→Prop) (SX2:Nat→Prop) (hst2:Stab St2 SX2) (QF:Int→List (Int × Sn)) (w:World) (ht:Tb w lo qt bt kt L) (hcnt:cntB L≤1048576) (hn1:L.length≤1000000) (hpb:patsB L≤100000000000000)
  (hrw:rightW role tier g=true) (hpf:fitsB px py=true) (hS2:St2 w) (hSX2:∀ j,SX2 j→j < w.heap.size∧j≠bt)
  (hcb:∀ (wb vb rb fb f fq m B:Nat),(∀ j,WSXG wb vb rb fb SX2 j→j < B∧j≠bt∧j≠m∧j≠fq)→f≠bt→CbOk 38 #[.pointer (some ⟨rb,0,none⟩), .pointer (some ⟨wb,0,none⟩), .pointer (some ⟨vb,0,none⟩), .pointer (some ⟨fb,0,none⟩)] lo qt bt L f fq m K B g.zoom (WStG q qc qt wb vb rb fb f role tier px py g St2) QF)
  (hdis:∀ z z',z≠z'→∀ p ∈ QF z,∀ q ∈ QF z',p.2.id≠q.2.id) (hQl:∀ z,(QF z).length≤60) (hkt:kt+8+18*K≤350000) (hPl:∀ P:List (Int × Sn),(P.map (fun p=>p.2.id)).Nodup→(∀ p ∈ P,∃ z,p ∈ QF z)→P.length≤64):
  Calls Tryz.prog 11 #[(.agg #[.pointer (some ⟨q,0,none⟩), .pointer (some ⟨qc,0,none⟩), .pointer (some ⟨qt,0,none⟩)]),(.agg #[.int .i64 role, .int .i64 tier, .int .i64 g.ops, .int .i64 g.zoom, .int .i64 g.a, .int .i64 g.b, .int .i64 g.c, .int .i64 g.d, .bool g.void, .int .i64 g.til]), .agg #[.int .i64 px, .int .i64 py, .int .i64 px, .int .i64 py], .int .i64 64] w (TopPost lo qt bt kt L role tier g.zoom K QF w):=by
 have hrt:(0≤role∧role≤7)∧0≤tier∧tier≤7:=by
  unfold rightW smallB at hrw
  simp only [Bool.and_eq_true,decide_eq_true_eq] at hrw
  exact ⟨hrw.1.1,hrw.1.2⟩
 have hgz:0≤g.zoom∧g.zoom≤16:=by
  unfold rightW at hrw
  simp only [Bool.and_eq_true] at hrw
  have:=rightG_iff.1 hrw.2
  omega
 have pa:=fun (Y:World)=>pask_any q qc qt role tier 64 g true Y (by decide)
 rw [hrw] at pa
 simp only [Bool.and_self,if_true] at pa
 have PA:=Lib.hid pa
 have pf:=fun (Y:World)=>right_any px py px py Y
 rw [right_pt,hpf] at pf
 have PF:=Lib.hid pf
 have PB:=Lib.hid (fun (Y:World)=>begin_any Y)
 have PL:=Lib.hid (fun (wb vb rb fb f fq m:Nat) (Y:World) (hP:PlI Y lo qt bt L f fq m kt 0 none []) (hS:WStG q qc qt wb vb rb fb f role tier px py g St2 Y) (hSX:∀ j,WSXG wb vb rb fb SX2 j→j < Y.heap.size∧j≠bt∧j≠m∧j≠fq) (hfl:f < Y.heap.size)=>levels_win lo qt bt L (some ⟨q,0,none⟩) (some ⟨qc,0,none⟩) role tier g f fq m kt K Y.heap.size rb wb vb fb _ _ (wstg_stab hst2) QF Y (hcb wb vb rb fb f fq m Y.heap.size hSX hP.fb) hSX hP hS (Nat.le_refl _) hcnt hn1 hpb hrt hgz hdis hQl (by omega) hfl)
 have HT:=Lib.hid (show Tb w lo qt bt kt L∧St2 w∧(∀ j,SX2 j→j < w.heap.size∧j≠bt)∧(∀ P:List (Int × Sn),(P.map (fun p=>p.2.id)).Nodup→(∀ p ∈ P,∃ z,p ∈ QF z)→P.length≤64) from ⟨ht,hS2,hSX2,hPl⟩)
 have hbl:=ht.ltb
 have hqt:=ht.lt
 generalize hPost:TopPost lo qt bt kt L role tier g.zoom K QF w=Post
 clear pa pf ht hkt hcnt hn1 hpb hrt hgz hdis hQl hrw hpf hS2 hSX2 hcb hPl
 go_enter Tryz.func11,Tryz.ntmps11
 go_wp2_with fail
 (refine wp_region_later (w.heap.size+3) (by kernel_rfl) (by kernel_rfl) (by go_size) ?_;(repeat (go_big_quiet_step ((first|(go_at_call 32;exact Later.call _ (Nat.le_trans (by go_size) (Later.is _).size) (PF.out _))|(go_at_call 35;exact Later.call _ (Nat.le_trans (by go_size) (Later.is _).size) (PA.out _))))));refine wpQuiet_nil ?_;intro Xq hlXq hmXq)
 go_wp2_with fail
 go_at_call 36
 refine (PB.out _).mono ?_
 rintro e w1 ⟨f,fq,m,rfl,hfq,hF,hb1⟩
 have hqs:w.heap.size+3≤Xq.w.heap.size:=hlXq
 have hbq:Below w.heap.size w Xq.w:=q9l
 have hord:=hF.ord
 have hfl:=hF.lt
 obtain ⟨X1,rfl,hl1,hm1⟩:=later _ hb1 (Nat.le_refl _)
 have HF:=Lib.hid (And.intro hF (And.intro hbq hb1))
 clear hF hb1 hbq
 go_wp2_with fail
 go_at_call 37
 have hbY:Below w.heap.size w (X1.w.alloc (.cells #[.pointer (some ⟨f,0,none⟩)] 93)):=(HF.out.2.1.trans (HF.out.2.2.mono HF.out.2.1.size)).alloc (by omega) _
 have hsY:(X1.w.alloc (.cells #[.pointer (some ⟨f,0,none⟩)] 93)).heap.size=X1.w.heap.size+1:=by simp
 have hw:Wb (X1.w.alloc (.cells #[.pointer (some ⟨f,0,none⟩)] 93)) w.heap.size (some ⟨q,0,none⟩) (some ⟨qc,0,none⟩) qt:=⟨by go_simp,by go_simp,by go_simp⟩
 have hv:Vb (X1.w.alloc (.cells #[.pointer (some ⟨f,0,none⟩)] 93)) (w.heap.size+1) role tier g:=⟨by go_simp,by go_simp,by go_simp,by go_simp,by go_simp,by go_simp,by go_simp,by go_simp,by go_simp,by go_simp⟩
 have hB:Rb (X1.w.alloc (.cells #[.pointer (some ⟨f,0,none⟩)] 93)) (w.heap.size+1+1) px py px py:=⟨by go_simp,by go_simp,by go_simp,by go_simp⟩
 have hfb:(X1.w.alloc (.cells #[.pointer (some ⟨f,0,none⟩)] 93)).cell? ⟨X1.w.heap.size,0,none⟩=some (.pointer (some ⟨f,0,none⟩)):=by go_simp
 have hF2:=HF.out.1.keep ((Below.refl X1.w.heap.size X1.w).alloc (Nat.le_refl _) (.cells #[.pointer (some ⟨f,0,none⟩)] 93))
 generalize hYY:(X1.w.alloc (.cells #[.pointer (some ⟨f,0,none⟩)] 93))=Y at hbY hsY hw hv hB hF2 hfb ⊢
 have hPY:PlI Y lo qt bt L f fq m kt 0 none []:=⟨HT.out.1.step (fun j _ _ hj=>hbY.block j hj) hbY.size (fun j hj => .inr (by rcases hj with (e|e)|e;omega;omega;cases e)),Fg.ofFd hF2,by simp,fun p hp=>(by cases hp),by omega⟩
 have hSY:∀ j,WSXG w.heap.size (w.heap.size+1) (w.heap.size+1+1) X1.w.heap.size SX2 j→j < Y.heap.size∧j≠bt∧j≠m∧j≠fq:=fun j hj=>by
  rcases hj with e|e|e|e|e
  ·omega
  ·omega
  ·omega
  ·omega
  ·have:=HT.out.2.2.1 j e;omega
 refine (PL.out w.heap.size (w.heap.size+1) (w.heap.size+1+1) X1.w.heap.size f fq m Y hPY ⟨hw,hv,⟨hB,hfb⟩,hst2.st (X:=fun _=>False) HT.out.2.1 (Chg.of hbY) (fun _ _ e=>e)⟩ hSY (by omega)).mono ?_
 rintro e w3 ⟨rfl,n3,nf3,C3,P3,xs,hpw,hlev,hP3,hperm,hn3,hc3,hC3⟩
 have hs3:=hc3.size
 have f3:w3.cell? ⟨X1.w.heap.size,0,none⟩=some (.pointer (some ⟨f,0,none⟩)):=(hc3.cell (p:=⟨X1.w.heap.size,0,none⟩) (by show X1.w.heap.size < _;omega) (fun e=>by
  rcases e with e|e|e|e
  ·have e':X1.w.heap.size=bt:=e;omega
  ·have e':X1.w.heap.size=m:=e;omega
  ·have e':X1.w.heap.size=fq:=e;omega
  ·cases e)).trans hfb
 have hPlen:(entP P3).length≤64:=by
  rw [entP_len]
  exact HT.out.2.2.2 P3 hP3.nd (fun p hp=>by obtain ⟨z,_,h9⟩:=allQ_mem (hperm.mem_iff.1 hp);exact ⟨z,h9⟩)
 have PFi:=Lib.hid (ffirst_any f fq m nf3 64 (lookP P3) C3 (entP P3) w3 hP3.fg hPlen (by decide) (Fg.ends (w:=w3) (f:=f) (fq:=fq) (m:=m) (n:=nf3) (C:=C3) hP3.nd hP3.wf))
 have hbs:=hbY.size
 have HC:=Lib.hid (show Chg (fun j=>j=bt) w w3∧(∀ j,gP C3 j→w.heap.size≤j)∧xs.Pairwise (· < ·)∧LevL L role tier 8 xs∧P3.Perm (allQ g.zoom QF xs)∧PlI w3 lo qt bt L f fq m n3 nf3 C3 P3∧n3≤kt+8+17*K from ⟨(Chg.of (X:=fun j=>j=bt) hbY).trans hc3 (fun j hj=>by rcases hj with e|e|e|e;exact .inl e;exact .inr (by omega);exact .inr (by omega);cases e),fun j hj=>Nat.le_trans hbs (hC3 j hj),hpw,hlev,hperm,hP3,hn3⟩)
 clear hP3 hc3 hC3 hw hv hB hF2 hbY hfb hpw hlev hperm hPY hSY hPlen hn3
 go_wp2_with fail
 refine PFi.out.mono ?_
 rintro e w4 ⟨A,ca,LL,rfl,hown,hLp,hLs,hc4⟩
 have hs34:=HC.out.1.size
 have HE:=Lib.hid (show ∀ e9,e9=Ending.returned (.tuple #[.slice A LL.length ca, .int .i64 0])→Post e9 w4 from fun e9 he=>by
  rw [← hPost]
  exact ⟨A,ca,LL,P3,xs,n3,he,own_base hown hs34,hLp,hLs,HC.out.2.2.1,HC.out.2.2.2.1,HC.out.2.2.2.2.1,HC.out.2.2.2.2.2.1.nd,(HC.out.2.2.2.2.2.1.tb.step (g':=fun _=>False) (fun j _ hj hjs=>hc4.block j hjs (fun e=>hj (e.elim (fun e => .inl (.inl e)) .inr))) hc4.size (fun x hx=>hx.elim)),HC.out.2.2.2.2.2.2,HC.out.1.trans hc4 (fun j hj=>hj.elim (fun e => .inr (by omega)) (fun e => .inr (HC.out.2.1 j e)))⟩)
 clear hown hc4 hLp hLs
 go_wp2_with fail
 first|exact HE.out _ rfl|(go_ret;exact HE.out _ rfl)
set_option maxHeartbeats 8000000 in
theorem topno_win (qt:Nat) (role tier:Int) (g:Gr) (q qc:Nat) (px py:Int) (w:World) (hrw:rightW role tier g=false) (hpf:fitsB px py=true):
  Calls Tryz.prog 11 #[(.agg #[.pointer (some ⟨q,0,none⟩), .pointer (some ⟨qc,0,none⟩), .pointer (some ⟨qt,0,none⟩)]),(.agg #[.int .i64 role, .int .i64 tier, .int .i64 g.ops, .int .i64 g.zoom, .int .i64 g.a, .int .i64 g.b, .int .i64 g.c, .int .i64 g.d, .bool g.void, .int .i64 g.til]), .agg #[.int .i64 px, .int .i64 py, .int .i64 px, .int .i64 py], .int .i64 64] w fun e w'=>e = .returned (.tuple #[.slice none 0 0, .int .i64 1])∧Below w.heap.size w w':=by
 have pa:=fun (Y:World)=>pask_any q qc qt role tier 64 g true Y (by decide)
 rw [hrw] at pa
 simp only [Bool.false_and,Bool.false_eq_true,if_false] at pa
 have PA:=Lib.hid pa
 have pf:=fun (Y:World)=>right_any px py px py Y
 rw [right_pt,hpf] at pf
 have PF:=Lib.hid pf
 clear pa pf hrw hpf
 go_enter Tryz.func11,Tryz.ntmps11
 go_wp2_with fail
 (refine wp_region_later (w.heap.size+3) (by kernel_rfl) (by kernel_rfl) (by go_size) ?_;(repeat (go_big_quiet_step ((first|(go_at_call 32;exact Later.call _ (Nat.le_trans (by go_size) (Later.is _).size) (PF.out _))|(go_at_call 35;exact Later.call _ (Nat.le_trans (by go_size) (Later.is _).size) (PA.out _))))));refine wpQuiet_nil ?_;intro Xq hlXq hmXq)
 have hbq:Below w.heap.size w Xq.w:=q9l
 have HB:=Lib.hid hbq
 clear hbq
 go_wp2_with fail
 refine bodyPost_ret (by simp only [results,Tryz.results11];go_simp;all_goals (first|rfl|simp [sel])) rfl ⟨rfl,HB.out⟩
set_option maxHeartbeats 16000000 in
theorem top_near (lo qt bt kt:Nat) (L:List Rl) (role tier:Int) (g:Gr) (q qc:Nat) (px py:Int) (K:Nat) (St2:World→Prop) (SX2:Nat→Prop) (hst2:Stab St2 SX2) (QF:Int→List (Int × Sn)) (w:World) (ht:Tb w lo qt bt kt L) (hcnt:cntB L≤1048576) (hn1:L.length≤1000000) (hpb:patsB L≤100000000000000)
  (hrw:rightW role tier g=true) (hpf:fitsB px py=true) (hS2:St2 w) (hSX2:∀ j,SX2 j→j < w.heap.size∧j≠bt)
  (hcb:∀ (wb vb pb mb fb f fq m B:Nat),(∀ j,NSXG wb vb pb mb fb SX2 j→j < B∧j≠bt∧j≠m∧j≠fq)→f≠bt→CbOk 43 #[.pointer (some ⟨wb,0,none⟩), .pointer (some ⟨vb,0,none⟩), .pointer (some ⟨pb,0,none⟩), .pointer (some ⟨mb,0,none⟩), .pointer (some ⟨fb,0,none⟩)] lo qt bt L f fq m K B g.zoom (NStG q qc qt wb vb pb mb fb f role tier px py g St2) QF)
  (hdis:∀ z z',z≠z'→∀ p ∈ QF z,∀ q ∈ QF z',p.2.id≠q.2.id) (hQl:∀ z,(QF z).length≤60) (hkt:kt+8+18*K≤350000) (hPl:∀ P:List (Int × Sn),(P.map (fun p=>p.2.id)).Nodup→(∀ p ∈ P,∃ z,p ∈ QF z)→P.length≤64):
  Calls Tryz.prog 12 #[(.agg #[.pointer (some ⟨q,0,none⟩), .pointer (some ⟨qc,0,none⟩), .pointer (some ⟨qt,0,none⟩)]),(.agg #[.int .i64 role, .int .i64 tier, .int .i64 g.ops, .int .i64 g.zoom, .int .i64 g.a, .int .i64 g.b, .int .i64 g.c, .int .i64 g.d, .bool g.void, .int .i64 g.til]), .agg #[.int .i64 px, .int .i64 py], .int .i64 64] w (TopPost lo qt bt kt L role tier g.zoom K QF w):=by
 have hrt:(0≤role∧role≤7)∧0≤tier∧tier≤7:=by
  unfold rightW smallB at hrw
  simp only [Bool.and_eq_true,decide_eq_true_eq] at hrw
  exact ⟨hrw.1.1,hrw.1.2⟩
 have hgz:0≤g.zoom∧g.zoom≤16:=by
  unfold rightW at hrw
  simp only [Bool.and_eq_true] at hrw
  have:=rightG_iff.1 hrw.2
  omega
 have pa:=fun (Y:World)=>pask_any q qc qt role tier 64 g true Y (by decide)
 rw [hrw] at pa
 simp only [Bool.and_self,if_true] at pa
 have PA:=Lib.hid pa
 have pf:=fun (Y:World)=>fits_any px py Y
 rw [hpf] at pf
 have PF:=Lib.hid pf
 have PB:=Lib.hid (fun (Y:World)=>begin_any Y)
 have PL:=Lib.hid (fun (wb vb pb mb fb f fq m:Nat) (Y:World) (hP:PlI Y lo qt bt L f fq m kt 0 none []) (hS:NStG q qc qt wb vb pb mb fb f role tier px py g St2 Y) (hSX:∀ j,NSXG wb vb pb mb fb SX2 j→j < Y.heap.size∧j≠bt∧j≠m∧j≠fq) (hfl:f < Y.heap.size)=>levels_near lo qt bt L (some ⟨q,0,none⟩) (some ⟨qc,0,none⟩) role tier g f fq m kt K Y.heap.size wb vb pb mb fb _ _ (nstg_stab hst2) QF Y (hcb wb vb pb mb fb f fq m Y.heap.size hSX hP.fb) hSX hP hS (Nat.le_refl _) hcnt hn1 hpb hrt hgz hdis hQl (by omega) hfl)
 have HT:=Lib.hid (show Tb w lo qt bt kt L∧St2 w∧(∀ j,SX2 j→j < w.heap.size∧j≠bt)∧(∀ P:List (Int × Sn),(P.map (fun p=>p.2.id)).Nodup→(∀ p ∈ P,∃ z,p ∈ QF z)→P.length≤64) from ⟨ht,hS2,hSX2,hPl⟩)
 have hbl:=ht.ltb
 have hqt:=ht.lt
 generalize hPost:TopPost lo qt bt kt L role tier g.zoom K QF w=Post
 clear pa pf ht hkt hcnt hn1 hpb hrt hgz hdis hQl hrw hpf hS2 hSX2 hcb hPl
 go_enter Tryz.func12,Tryz.ntmps12
 go_wp2_with fail
 (refine wp_region_later (w.heap.size+4) (by kernel_rfl) (by kernel_rfl) (by go_size) ?_;(repeat (go_big_quiet_step ((first|(go_at_call 10;exact Later.call _ (Nat.le_trans (by go_size) (Later.is _).size) (PF.out _))|(go_at_call 35;exact Later.call _ (Nat.le_trans (by go_size) (Later.is _).size) (PA.out _))))));refine wpQuiet_nil ?_;intro Xq hlXq hmXq)
 go_wp2_with fail
 go_at_call 36
 refine (PB.out _).mono ?_
 rintro e w1 ⟨f,fq,m,rfl,hfq,hF,hb1⟩
 have hqs:w.heap.size+4≤Xq.w.heap.size:=hlXq
 have hbq:Below w.heap.size w Xq.w:=q9l
 have hord:=hF.ord
 have hfl:=hF.lt
 obtain ⟨X1,rfl,hl1,hm1⟩:=later _ hb1 (Nat.le_refl _)
 have HF:=Lib.hid (And.intro hF (And.intro hbq hb1))
 clear hF hb1 hbq
 go_wp2_with fail
 go_at_call 37
 have hbY:Below w.heap.size w (X1.w.alloc (.cells #[.pointer (some ⟨f,0,none⟩)] 93)):=(HF.out.2.1.trans (HF.out.2.2.mono HF.out.2.1.size)).alloc (by omega) _
 have hsY:(X1.w.alloc (.cells #[.pointer (some ⟨f,0,none⟩)] 93)).heap.size=X1.w.heap.size+1:=by simp
 have hw:Wb (X1.w.alloc (.cells #[.pointer (some ⟨f,0,none⟩)] 93)) w.heap.size (some ⟨q,0,none⟩) (some ⟨qc,0,none⟩) qt:=⟨by go_simp,by go_simp,by go_simp⟩
 have hv:Vb (X1.w.alloc (.cells #[.pointer (some ⟨f,0,none⟩)] 93)) (w.heap.size+1) role tier g:=⟨by go_simp,by go_simp,by go_simp,by go_simp,by go_simp,by go_simp,by go_simp,by go_simp,by go_simp,by go_simp⟩
 have hB:Bb (X1.w.alloc (.cells #[.pointer (some ⟨f,0,none⟩)] 93)) (w.heap.size+1+1) (w.heap.size+1+1+1) X1.w.heap.size f px py 64:=⟨by go_simp,by go_simp,by go_simp,by go_simp⟩
 have hm0b:=hB.m0
 have hfb:(X1.w.alloc (.cells #[.pointer (some ⟨f,0,none⟩)] 93)).cell? ⟨X1.w.heap.size,0,none⟩=some (.pointer (some ⟨f,0,none⟩)):=by go_simp
 have hF2:=HF.out.1.keep ((Below.refl X1.w.heap.size X1.w).alloc (Nat.le_refl _) (.cells #[.pointer (some ⟨f,0,none⟩)] 93))
 generalize hYY:(X1.w.alloc (.cells #[.pointer (some ⟨f,0,none⟩)] 93))=Y at hbY hsY hw hv hB hF2 hfb hm0b ⊢
 have hPY:PlI Y lo qt bt L f fq m kt 0 none []:=⟨HT.out.1.step (fun j _ _ hj=>hbY.block j hj) hbY.size (fun j hj => .inr (by rcases hj with (e|e)|e;omega;omega;cases e)),Fg.ofFd hF2,by simp,fun p hp=>(by cases hp),by omega⟩
 have hSY:∀ j,NSXG w.heap.size (w.heap.size+1) (w.heap.size+1+1) (w.heap.size+1+1+1) X1.w.heap.size SX2 j→j < Y.heap.size∧j≠bt∧j≠m∧j≠fq:=fun j hj=>by
  rcases hj with e|e|e|e|e|e
  ·omega
  ·omega
  ·omega
  ·omega
  ·omega
  ·have:=HT.out.2.2.1 j e;omega
 refine (PL.out w.heap.size (w.heap.size+1) (w.heap.size+1+1) (w.heap.size+1+1+1) X1.w.heap.size f fq m Y hPY ⟨hw,hv,hB,hst2.st (X:=fun _=>False) HT.out.2.1 (Chg.of hbY) (fun _ _ e=>e)⟩ hSY (by omega)).mono ?_
 rintro e w3 ⟨rfl,n3,nf3,C3,P3,xs,hpw,hlev,hP3,hperm,hn3,hc3,hC3⟩
 have hs3:=hc3.size
 have m3:w3.cell? ⟨w.heap.size+1+1+1,0,none⟩=some (.int .i64 64):=(hc3.cell (p:=⟨w.heap.size+1+1+1,0,none⟩) (by show w.heap.size+1+1+1 < _;omega) (fun e=>by
  rcases e with e|e|e|e
  ·have e':w.heap.size+1+1+1=bt:=e;omega
  ·have e':w.heap.size+1+1+1=m:=e;omega
  ·have e':w.heap.size+1+1+1=fq:=e;omega
  ·cases e)).trans hm0b
 have f3:w3.cell? ⟨X1.w.heap.size,0,none⟩=some (.pointer (some ⟨f,0,none⟩)):=(hc3.cell (p:=⟨X1.w.heap.size,0,none⟩) (by show X1.w.heap.size < _;omega) (fun e=>by
  rcases e with e|e|e|e
  ·have e':X1.w.heap.size=bt:=e;omega
  ·have e':X1.w.heap.size=m:=e;omega
  ·have e':X1.w.heap.size=fq:=e;omega
  ·cases e)).trans hfb
 have hPlen:(entP P3).length≤64:=by
  rw [entP_len]
  exact HT.out.2.2.2 P3 hP3.nd (fun p hp=>by obtain ⟨z,_,h9⟩:=allQ_mem (hperm.mem_iff.1 hp);exact ⟨z,h9⟩)
 have PFi:=Lib.hid (ffirst_any f fq m nf3 64 (lookP P3) C3 (entP P3) w3 hP3.fg hPlen (by decide) (Fg.ends (w:=w3) (f:=f) (fq:=fq) (m:=m) (n:=nf3) (C:=C3) hP3.nd hP3.wf))
 have hbs:=hbY.size
 have HC:=Lib.hid (show Chg (fun j=>j=bt) w w3∧(∀ j,gP C3 j→w.heap.size≤j)∧xs.Pairwise (· < ·)∧LevL L role tier 8 xs∧P3.Perm (allQ g.zoom QF xs)∧PlI w3 lo qt bt L f fq m n3 nf3 C3 P3∧n3≤kt+8+17*K from ⟨(Chg.of (X:=fun j=>j=bt) hbY).trans hc3 (fun j hj=>by rcases hj with e|e|e|e;exact .inl e;exact .inr (by omega);exact .inr (by omega);cases e),fun j hj=>Nat.le_trans hbs (hC3 j hj),hpw,hlev,hperm,hP3,hn3⟩)
 clear hP3 hc3 hC3 hw hv hB hF2 hbY hfb hm0b hpw hlev hperm hPY hSY hPlen hn3
 go_wp2_with fail
 refine PFi.out.mono ?_
 rintro e w4 ⟨A,ca,LL,rfl,hown,hLp,hLs,hc4⟩
 have hs34:=HC.out.1.size
 have HE:=Lib.hid (show ∀ e9,e9=Ending.returned (.tuple #[.slice A LL.length ca, .int .i64 0])→Post e9 w4 from fun e9 he=>by
  rw [← hPost]
  exact ⟨A,ca,LL,P3,xs,n3,he,own_base hown hs34,hLp,hLs,HC.out.2.2.1,HC.out.2.2.2.1,HC.out.2.2.2.2.1,HC.out.2.2.2.2.2.1.nd,(HC.out.2.2.2.2.2.1.tb.step (g':=fun _=>False) (fun j _ hj hjs=>hc4.block j hjs (fun e=>hj (e.elim (fun e => .inl (.inl e)) .inr))) hc4.size (fun x hx=>hx.elim)),HC.out.2.2.2.2.2.2,HC.out.1.trans hc4 (fun j hj=>hj.elim (fun e => .inr (by omega)) (fun e => .inr (HC.out.2.1 j e)))⟩)
 clear hown hc4 hLp hLs
 go_wp2_with fail
 first|exact HE.out _ rfl|(go_ret;exact HE.out _ rfl)
set_option maxHeartbeats 8000000 in
theorem topno_near (qt:Nat) (role tier:Int) (g:Gr) (q qc:Nat) (px py:Int) (w:World) (hrw:rightW role tier g=false) (hpf:fitsB px py=true):
  Calls Tryz.prog 12 #[(.agg #[.pointer (some ⟨q,0,none⟩), .pointer (some ⟨qc,0,none⟩), .pointer (some ⟨qt,0,none⟩)]),(.agg #[.int .i64 role, .int .i64 tier, .int .i64 g.ops, .int .i64 g.zoom, .int .i64 g.a, .int .i64 g.b, .int .i64 g.c, .int .i64 g.d, .bool g.void, .int .i64 g.til]), .agg #[.int .i64 px, .int .i64 py], .int .i64 64] w fun e w'=>e = .returned (.tuple #[.slice none 0 0, .int .i64 1])∧Below w.heap.size w w':=by
 have pa:=fun (Y:World)=>pask_any q qc qt role tier 64 g true Y (by decide)
 rw [hrw] at pa
 simp only [Bool.false_and,Bool.false_eq_true,if_false] at pa
 have PA:=Lib.hid pa
 have pf:=fun (Y:World)=>fits_any px py Y
 rw [hpf] at pf
 have PF:=Lib.hid pf
 clear pa pf hrw hpf
 go_enter Tryz.func12,Tryz.ntmps12
 go_wp2_with fail
 (refine wp_region_later (w.heap.size+4) (by kernel_rfl) (by kernel_rfl) (by go_size) ?_;(repeat (go_big_quiet_step ((first|(go_at_call 10;exact Later.call _ (Nat.le_trans (by go_size) (Later.is _).size) (PF.out _))|(go_at_call 35;exact Later.call _ (Nat.le_trans (by go_size) (Later.is _).size) (PA.out _))))));refine wpQuiet_nil ?_;intro Xq hlXq hmXq)
 have hbq:Below w.heap.size w Xq.w:=q9l
 have HB:=Lib.hid hbq
 clear hbq
 go_wp2_with fail
 refine bodyPost_ret (by simp only [results,Tryz.results12];go_simp;all_goals (first|rfl|simp [sel])) rfl ⟨rfl,HB.out⟩
set_option maxHeartbeats 16000000 in
theorem top_clk (lo qt bt kt:Nat) (L:List Rl) (role tier:Int) (g:Gr) (q qc:Nat) (px py:Int) (K:Nat) (St2:World→Prop) (SX2:Nat→Prop) (hst2:Stab St2 SX2) (QF:Int→List (Int × Sn)) (w:World) (ht:Tb w lo qt bt kt L) (hcnt:cntB L≤1048576) (hn1:L.length≤1000000) (hpb:patsB L≤100000000000000)
  (hrw:rightW role tier g=true) (hpf:fitsB px py=true) (hS2:St2 w) (hSX2:∀ j,SX2 j→j < w.heap.size∧j≠bt)
  (hcb:∀ (wb vb rb fb f fq m B:Nat),(∀ j,WSXG wb vb rb fb SX2 j→j < B∧j≠bt∧j≠m∧j≠fq)→f≠bt→CbOk 47 #[.pointer (some ⟨rb,0,none⟩), .pointer (some ⟨wb,0,none⟩), .pointer (some ⟨vb,0,none⟩), .pointer (some ⟨fb,0,none⟩)] lo qt bt L f fq m K B g.zoom (WStG q qc qt wb vb rb fb f role tier px py g St2) QF)
  (hdis:∀ z z',z≠z'→∀ p ∈ QF z,∀ q ∈ QF z',p.2.id≠q.2.id) (hQl:∀ z,(QF z).length≤60) (hkt:kt+8+18*K≤350000) (hPl:∀ P:List (Int × Sn),(P.map (fun p=>p.2.id)).Nodup→(∀ p ∈ P,∃ z,p ∈ QF z)→P.length≤64):
  Calls Tryz.prog 13 #[(.agg #[.pointer (some ⟨q,0,none⟩), .pointer (some ⟨qc,0,none⟩), .pointer (some ⟨qt,0,none⟩)]),(.agg #[.int .i64 role, .int .i64 tier, .int .i64 g.ops, .int .i64 g.zoom, .int .i64 g.a, .int .i64 g.b, .int .i64 g.c, .int .i64 g.d, .bool g.void, .int .i64 g.til]), .agg #[.int .i64 px, .int .i64 py, .int .i64 px, .int .i64 py], .int .i64 64] w (TopPost lo qt bt kt L role tier g.zoom K QF w):=by
 have hrt:(0≤role∧role≤7)∧0≤tier∧tier≤7:=by
  unfold rightW smallB at hrw
  simp only [Bool.and_eq_true,decide_eq_true_eq] at hrw
  exact ⟨hrw.1.1,hrw.1.2⟩
 have hgz:0≤g.zoom∧g.zoom≤16:=by
  unfold rightW at hrw
  simp only [Bool.and_eq_true] at hrw
  have:=rightG_iff.1 hrw.2
  omega
 have pa:=fun (Y:World)=>pask_any q qc qt role tier 64 g true Y (by decide)
 rw [hrw] at pa
 simp only [Bool.and_self,if_true] at pa
 have PA:=Lib.hid pa
 have pf:=fun (Y:World)=>right_any px py px py Y
 rw [right_pt,hpf] at pf
 have PF:=Lib.hid pf
 have PB:=Lib.hid (fun (Y:World)=>begin_any Y)
 have PL:=Lib.hid (fun (wb vb rb fb f fq m:Nat) (Y:World) (hP:PlI Y lo qt bt L f fq m kt 0 none []) (hS:WStG q qc qt wb vb rb fb f role tier px py g St2 Y) (hSX:∀ j,WSXG wb vb rb fb SX2 j→j < Y.heap.size∧j≠bt∧j≠m∧j≠fq) (hfl:f < Y.heap.size)=>levels_clk lo qt bt L (some ⟨q,0,none⟩) (some ⟨qc,0,none⟩) role tier g f fq m kt K Y.heap.size rb wb vb fb _ _ (wstg_stab hst2) QF Y (hcb wb vb rb fb f fq m Y.heap.size hSX hP.fb) hSX hP hS (Nat.le_refl _) hcnt hn1 hpb hrt hgz hdis hQl (by omega) hfl)
 have HT:=Lib.hid (show Tb w lo qt bt kt L∧St2 w∧(∀ j,SX2 j→j < w.heap.size∧j≠bt)∧(∀ P:List (Int × Sn),(P.map (fun p=>p.2.id)).Nodup→(∀ p ∈ P,∃ z,p ∈ QF z)→P.length≤64) from ⟨ht,hS2,hSX2,hPl⟩)
 have hbl:=ht.ltb
 have hqt:=ht.lt
 generalize hPost:TopPost lo qt bt kt L role tier g.zoom K QF w=Post
 clear pa pf ht hkt hcnt hn1 hpb hrt hgz hdis hQl hrw hpf hS2 hSX2 hcb hPl
 go_enter Tryz.func13,Tryz.ntmps13
 go_wp2_with fail
 (refine wp_region_later (w.heap.size+3) (by kernel_rfl) (by kernel_rfl) (by go_size) ?_;(repeat (go_big_quiet_step ((first|(go_at_call 32;exact Later.call _ (Nat.le_trans (by go_size) (Later.is _).size) (PF.out _))|(go_at_call 35;exact Later.call _ (Nat.le_trans (by go_size) (Later.is _).size) (PA.out _))))));refine wpQuiet_nil ?_;intro Xq hlXq hmXq)
 go_wp2_with fail
 go_at_call 36
 refine (PB.out _).mono ?_
 rintro e w1 ⟨f,fq,m,rfl,hfq,hF,hb1⟩
 have hqs:w.heap.size+3≤Xq.w.heap.size:=hlXq
 have hbq:Below w.heap.size w Xq.w:=q9l
 have hord:=hF.ord
 have hfl:=hF.lt
 obtain ⟨X1,rfl,hl1,hm1⟩:=later _ hb1 (Nat.le_refl _)
 have HF:=Lib.hid (And.intro hF (And.intro hbq hb1))
 clear hF hb1 hbq
 go_wp2_with fail
 go_at_call 37
 have hbY:Below w.heap.size w (X1.w.alloc (.cells #[.pointer (some ⟨f,0,none⟩)] 93)):=(HF.out.2.1.trans (HF.out.2.2.mono HF.out.2.1.size)).alloc (by omega) _
 have hsY:(X1.w.alloc (.cells #[.pointer (some ⟨f,0,none⟩)] 93)).heap.size=X1.w.heap.size+1:=by simp
 have hw:Wb (X1.w.alloc (.cells #[.pointer (some ⟨f,0,none⟩)] 93)) w.heap.size (some ⟨q,0,none⟩) (some ⟨qc,0,none⟩) qt:=⟨by go_simp,by go_simp,by go_simp⟩
 have hv:Vb (X1.w.alloc (.cells #[.pointer (some ⟨f,0,none⟩)] 93)) (w.heap.size+1) role tier g:=⟨by go_simp,by go_simp,by go_simp,by go_simp,by go_simp,by go_simp,by go_simp,by go_simp,by go_simp,by go_simp⟩
 have hB:Rb (X1.w.alloc (.cells #[.pointer (some ⟨f,0,none⟩)] 93)) (w.heap.size+1+1) px py px py:=⟨by go_simp,by go_simp,by go_simp,by go_simp⟩
 have hfb:(X1.w.alloc (.cells #[.pointer (some ⟨f,0,none⟩)] 93)).cell? ⟨X1.w.heap.size,0,none⟩=some (.pointer (some ⟨f,0,none⟩)):=by go_simp
 have hF2:=HF.out.1.keep ((Below.refl X1.w.heap.size X1.w).alloc (Nat.le_refl _) (.cells #[.pointer (some ⟨f,0,none⟩)] 93))
 generalize hYY:(X1.w.alloc (.cells #[.pointer (some ⟨f,0,none⟩)] 93))=Y at hbY hsY hw hv hB hF2 hfb ⊢
 have hPY:PlI Y lo qt bt L f fq m kt 0 none []:=⟨HT.out.1.step (fun j _ _ hj=>hbY.block j hj) hbY.size (fun j hj => .inr (by rcases hj with (e|e)|e;omega;omega;cases e)),Fg.ofFd hF2,by simp,fun p hp=>(by cases hp),by omega⟩
 have hSY:∀ j,WSXG w.heap.size (w.heap.size+1) (w.heap.size+1+1) X1.w.heap.size SX2 j→j < Y.heap.size∧j≠bt∧j≠m∧j≠fq:=fun j hj=>by
  rcases hj with e|e|e|e|e
  ·omega
  ·omega
  ·omega
  ·omega
  ·have:=HT.out.2.2.1 j e;omega
 refine (PL.out w.heap.size (w.heap.size+1) (w.heap.size+1+1) X1.w.heap.size f fq m Y hPY ⟨hw,hv,⟨hB,hfb⟩,hst2.st (X:=fun _=>False) HT.out.2.1 (Chg.of hbY) (fun _ _ e=>e)⟩ hSY (by omega)).mono ?_
 rintro e w3 ⟨rfl,n3,nf3,C3,P3,xs,hpw,hlev,hP3,hperm,hn3,hc3,hC3⟩
 have hs3:=hc3.size
 have f3:w3.cell? ⟨X1.w.heap.size,0,none⟩=some (.pointer (some ⟨f,0,none⟩)):=(hc3.cell (p:=⟨X1.w.heap.size,0,none⟩) (by show X1.w.heap.size < _;omega) (fun e=>by
  rcases e with e|e|e|e
  ·have e':X1.w.heap.size=bt:=e;omega
  ·have e':X1.w.heap.size=m:=e;omega
  ·have e':X1.w.heap.size=fq:=e;omega
  ·cases e)).trans hfb
 have hPlen:(entP P3).length≤64:=by
  rw [entP_len]
  exact HT.out.2.2.2 P3 hP3.nd (fun p hp=>by obtain ⟨z,_,h9⟩:=allQ_mem (hperm.mem_iff.1 hp);exact ⟨z,h9⟩)
 have PFi:=Lib.hid (ffirst_any f fq m nf3 64 (lookP P3) C3 (entP P3) w3 hP3.fg hPlen (by decide) (Fg.ends (w:=w3) (f:=f) (fq:=fq) (m:=m) (n:=nf3) (C:=C3) hP3.nd hP3.wf))
 have hbs:=hbY.size
 have HC:=Lib.hid (show Chg (fun j=>j=bt) w w3∧(∀ j,gP C3 j→w.heap.size≤j)∧xs.Pairwise (· < ·)∧LevL L role tier 8 xs∧P3.Perm (allQ g.zoom QF xs)∧PlI w3 lo qt bt L f fq m n3 nf3 C3 P3∧n3≤kt+8+17*K from ⟨(Chg.of (X:=fun j=>j=bt) hbY).trans hc3 (fun j hj=>by rcases hj with e|e|e|e;exact .inl e;exact .inr (by omega);exact .inr (by omega);cases e),fun j hj=>Nat.le_trans hbs (hC3 j hj),hpw,hlev,hperm,hP3,hn3⟩)
 clear hP3 hc3 hC3 hw hv hB hF2 hbY hfb hpw hlev hperm hPY hSY hPlen hn3
 go_wp2_with fail
 refine PFi.out.mono ?_
 rintro e w4 ⟨A,ca,LL,rfl,hown,hLp,hLs,hc4⟩
 have hs34:=HC.out.1.size
 have HE:=Lib.hid (show ∀ e9,e9=Ending.returned (.tuple #[.slice A LL.length ca, .int .i64 0])→Post e9 w4 from fun e9 he=>by
  rw [← hPost]
  exact ⟨A,ca,LL,P3,xs,n3,he,own_base hown hs34,hLp,hLs,HC.out.2.2.1,HC.out.2.2.2.1,HC.out.2.2.2.2.1,HC.out.2.2.2.2.2.1.nd,(HC.out.2.2.2.2.2.1.tb.step (g':=fun _=>False) (fun j _ hj hjs=>hc4.block j hjs (fun e=>hj (e.elim (fun e => .inl (.inl e)) .inr))) hc4.size (fun x hx=>hx.elim)),HC.out.2.2.2.2.2.2,HC.out.1.trans hc4 (fun j hj=>hj.elim (fun e => .inr (by omega)) (fun e => .inr (HC.out.2.1 j e)))⟩)
 clear hown hc4 hLp hLs
 go_wp2_with fail
 first|exact HE.out _ rfl|(go_ret;exact HE.out _ rfl)
set_option maxHeartbeats 8000000 in
theorem topno_clk (qt:Nat) (role tier:Int) (g:Gr) (q qc:Nat) (px py:Int) (w:World) (hrw:rightW role tier g=false) (hpf:fitsB px py=true):
  Calls Tryz.prog 13 #[(.agg #[.pointer (some ⟨q,0,none⟩), .pointer (some ⟨qc,0,none⟩), .pointer (some ⟨qt,0,none⟩)]),(.agg #[.int .i64 role, .int .i64 tier, .int .i64 g.ops, .int .i64 g.zoom, .int .i64 g.a, .int .i64 g.b, .int .i64 g.c, .int .i64 g.d, .bool g.void, .int .i64 g.til]), .agg #[.int .i64 px, .int .i64 py, .int .i64 px, .int .i64 py], .int .i64 64] w fun e w'=>e = .returned (.tuple #[.slice none 0 0, .int .i64 1])∧Below w.heap.size w w':=by
 have pa:=fun (Y:World)=>pask_any q qc qt role tier 64 g true Y (by decide)
 rw [hrw] at pa
 simp only [Bool.false_and,Bool.false_eq_true,if_false] at pa
 have PA:=Lib.hid pa
 have pf:=fun (Y:World)=>right_any px py px py Y
 rw [right_pt,hpf] at pf
 have PF:=Lib.hid pf
 clear pa pf hrw hpf
 go_enter Tryz.func13,Tryz.ntmps13
 go_wp2_with fail
 (refine wp_region_later (w.heap.size+3) (by kernel_rfl) (by kernel_rfl) (by go_size) ?_;(repeat (go_big_quiet_step ((first|(go_at_call 32;exact Later.call _ (Nat.le_trans (by go_size) (Later.is _).size) (PF.out _))|(go_at_call 35;exact Later.call _ (Nat.le_trans (by go_size) (Later.is _).size) (PA.out _))))));refine wpQuiet_nil ?_;intro Xq hlXq hmXq)
 have hbq:Below w.heap.size w Xq.w:=q9l
 have HB:=Lib.hid hbq
 clear hbq
 go_wp2_with fail
 refine bodyPost_ret (by simp only [results,Tryz.results13];go_simp;all_goals (first|rfl|simp [sel])) rfl ⟨rfl,HB.out⟩
set_option maxHeartbeats 16000000 in
theorem top_nearc (lo qt bt kt:Nat) (L:List Rl) (role tier:Int) (g:Gr) (q qc:Nat) (px py:Int) (K:Nat) (St2:World→Prop) (SX2:Nat→Prop) (hst2:Stab St2 SX2) (QF:Int→List (Int × Sn)) (w:World) (ht:Tb w lo qt bt kt L) (hcnt:cntB L≤1048576) (hn1:L.length≤1000000) (hpb:patsB L≤100000000000000)
  (hrw:rightW role tier g=true) (hpf:fitsB px py=true) (hS2:St2 w) (hSX2:∀ j,SX2 j→j < w.heap.size∧j≠bt)
  (hcb:∀ (wb vb pb mb fb f fq m B:Nat),(∀ j,NSXG wb vb pb mb fb SX2 j→j < B∧j≠bt∧j≠m∧j≠fq)→f≠bt→CbOk 51 #[.pointer (some ⟨wb,0,none⟩), .pointer (some ⟨vb,0,none⟩), .pointer (some ⟨pb,0,none⟩), .pointer (some ⟨mb,0,none⟩), .pointer (some ⟨fb,0,none⟩)] lo qt bt L f fq m K B g.zoom (NStG q qc qt wb vb pb mb fb f role tier px py g St2) QF)
  (hdis:∀ z z',z≠z'→∀ p ∈ QF z,∀ q ∈ QF z',p.2.id≠q.2.id) (hQl:∀ z,(QF z).length≤60) (hkt:kt+8+18*K≤350000) (hPl:∀ P:List (Int × Sn),(P.map (fun p=>p.2.id)).Nodup→(∀ p ∈ P,∃ z,p ∈ QF z)→P.length≤64):
  Calls Tryz.prog 14 #[(.agg #[.pointer (some ⟨q,0,none⟩), .pointer (some ⟨qc,0,none⟩), .pointer (some ⟨qt,0,none⟩)]),(.agg #[.int .i64 role, .int .i64 tier, .int .i64 g.ops, .int .i64 g.zoom, .int .i64 g.a, .int .i64 g.b, .int .i64 g.c, .int .i64 g.d, .bool g.void, .int .i64 g.til]), .agg #[.int .i64 px, .int .i64 py], .int .i64 64] w (TopPost lo qt bt kt L role tier g.zoom K QF w):=by
 have hrt:(0≤role∧role≤7)∧0≤tier∧tier≤7:=by
  unfold rightW smallB at hrw
  simp only [Bool.and_eq_true,decide_eq_true_eq] at hrw
  exact ⟨hrw.1.1,hrw.1.2⟩
 have hgz:0≤g.zoom∧g.zoom≤16:=by
  unfold rightW at hrw
  simp only [Bool.and_eq_true] at hrw
  have:=rightG_iff.1 hrw.2
  omega
 have pa:=fun (Y:World)=>pask_any q qc qt role tier 64 g true Y (by decide)
 rw [hrw] at pa
 simp only [Bool.and_self,if_true] at pa
 have PA:=Lib.hid pa
 have pf:=fun (Y:World)=>fits_any px py Y
 rw [hpf] at pf
 have PF:=Lib.hid pf
 have PB:=Lib.hid (fun (Y:World)=>begin_any Y)
 have PL:=Lib.hid (fun (wb vb pb mb fb f fq m:Nat) (Y:World) (hP:PlI Y lo qt bt L f fq m kt 0 none []) (hS:NStG q qc qt wb vb pb mb fb f role tier px py g St2 Y) (hSX:∀ j,NSXG wb vb pb mb fb SX2 j→j < Y.heap.size∧j≠bt∧j≠m∧j≠fq) (hfl:f < Y.heap.size)=>levels_nearc lo qt bt L (some ⟨q,0,none⟩) (some ⟨qc,0,none⟩) role tier g f fq m kt K Y.heap.size wb vb pb mb fb _ _ (nstg_stab hst2) QF Y (hcb wb vb pb mb fb f fq m Y.heap.size hSX hP.fb) hSX hP hS (Nat.le_refl _) hcnt hn1 hpb hrt hgz hdis hQl (by omega) hfl)
 have HT:=Lib.hid (show Tb w lo qt bt kt L∧St2 w∧(∀ j,SX2 j→j < w.heap.size∧j≠bt)∧(∀ P:List (Int × Sn),(P.map (fun p=>p.2.id)).Nodup→(∀ p ∈ P,∃ z,p ∈ QF z)→P.length≤64) from ⟨ht,hS2,hSX2,hPl⟩)
 have hbl:=ht.ltb
 have hqt:=ht.lt
 generalize hPost:TopPost lo qt bt kt L role tier g.zoom K QF w=Post
 clear pa pf ht hkt hcnt hn1 hpb hrt hgz hdis hQl hrw hpf hS2 hSX2 hcb hPl
 go_enter Tryz.func14,Tryz.ntmps14
 go_wp2_with fail
 (refine wp_region_later (w.heap.size+4) (by kernel_rfl) (by kernel_rfl) (by go_size) ?_;(repeat (go_big_quiet_step ((first|(go_at_call 10;exact Later.call _ (Nat.le_trans (by go_size) (Later.is _).size) (PF.out _))|(go_at_call 35;exact Later.call _ (Nat.le_trans (by go_size) (Later.is _).size) (PA.out _))))));refine wpQuiet_nil ?_;intro Xq hlXq hmXq)
 go_wp2_with fail
 go_at_call 36
 refine (PB.out _).mono ?_
 rintro e w1 ⟨f,fq,m,rfl,hfq,hF,hb1⟩
 have hqs:w.heap.size+4≤Xq.w.heap.size:=hlXq
 have hbq:Below w.heap.size w Xq.w:=q9l
 have hord:=hF.ord
 have hfl:=hF.lt
 obtain ⟨X1,rfl,hl1,hm1⟩:=later _ hb1 (Nat.le_refl _)
 have HF:=Lib.hid (And.intro hF (And.intro hbq hb1))
 clear hF hb1 hbq
 go_wp2_with fail
 go_at_call 37
 have hbY:Below w.heap.size w (X1.w.alloc (.cells #[.pointer (some ⟨f,0,none⟩)] 93)):=(HF.out.2.1.trans (HF.out.2.2.mono HF.out.2.1.size)).alloc (by omega) _
 have hsY:(X1.w.alloc (.cells #[.pointer (some ⟨f,0,none⟩)] 93)).heap.size=X1.w.heap.size+1:=by simp
 have hw:Wb (X1.w.alloc (.cells #[.pointer (some ⟨f,0,none⟩)] 93)) w.heap.size (some ⟨q,0,none⟩) (some ⟨qc,0,none⟩) qt:=⟨by go_simp,by go_simp,by go_simp⟩
 have hv:Vb (X1.w.alloc (.cells #[.pointer (some ⟨f,0,none⟩)] 93)) (w.heap.size+1) role tier g:=⟨by go_simp,by go_simp,by go_simp,by go_simp,by go_simp,by go_simp,by go_simp,by go_simp,by go_simp,by go_simp⟩
 have hB:Bb (X1.w.alloc (.cells #[.pointer (some ⟨f,0,none⟩)] 93)) (w.heap.size+1+1) (w.heap.size+1+1+1) X1.w.heap.size f px py 64:=⟨by go_simp,by go_simp,by go_simp,by go_simp⟩
 have hm0b:=hB.m0
 have hfb:(X1.w.alloc (.cells #[.pointer (some ⟨f,0,none⟩)] 93)).cell? ⟨X1.w.heap.size,0,none⟩=some (.pointer (some ⟨f,0,none⟩)):=by go_simp
 have hF2:=HF.out.1.keep ((Below.refl X1.w.heap.size X1.w).alloc (Nat.le_refl _) (.cells #[.pointer (some ⟨f,0,none⟩)] 93))
 generalize hYY:(X1.w.alloc (.cells #[.pointer (some ⟨f,0,none⟩)] 93))=Y at hbY hsY hw hv hB hF2 hfb hm0b ⊢
 have hPY:PlI Y lo qt bt L f fq m kt 0 none []:=⟨HT.out.1.step (fun j _ _ hj=>hbY.block j hj) hbY.size (fun j hj => .inr (by rcases hj with (e|e)|e;omega;omega;cases e)),Fg.ofFd hF2,by simp,fun p hp=>(by cases hp),by omega⟩
 have hSY:∀ j,NSXG w.heap.size (w.heap.size+1) (w.heap.size+1+1) (w.heap.size+1+1+1) X1.w.heap.size SX2 j→j < Y.heap.size∧j≠bt∧j≠m∧j≠fq:=fun j hj=>by
  rcases hj with e|e|e|e|e|e
  ·omega
  ·omega
  ·omega
  ·omega
  ·omega
  ·have:=HT.out.2.2.1 j e;omega
 refine (PL.out w.heap.size (w.heap.size+1) (w.heap.size+1+1) (w.heap.size+1+1+1) X1.w.heap.size f fq m Y hPY ⟨hw,hv,hB,hst2.st (X:=fun _=>False) HT.out.2.1 (Chg.of hbY) (fun _ _ e=>e)⟩ hSY (by omega)).mono ?_
 rintro e w3 ⟨rfl,n3,nf3,C3,P3,xs,hpw,hlev,hP3,hperm,hn3,hc3,hC3⟩
 have hs3:=hc3.size
 have m3:w3.cell? ⟨w.heap.size+1+1+1,0,none⟩=some (.int .i64 64):=(hc3.cell (p:=⟨w.heap.size+1+1+1,0,none⟩) (by show w.heap.size+1+1+1 < _;omega) (fun e=>by
  rcases e with e|e|e|e
  ·have e':w.heap.size+1+1+1=bt:=e;omega
  ·have e':w.heap.size+1+1+1=m:=e;omega
  ·have e':w.heap.size+1+1+1=fq:=e;omega
  ·cases e)).trans hm0b
 have f3:w3.cell? ⟨X1.w.heap.size,0,none⟩=some (.pointer (some ⟨f,0,none⟩)):=(hc3.cell (p:=⟨X1.w.heap.size,0,none⟩) (by show X1.w.heap.size < _;omega) (fun e=>by
  rcases e with e|e|e|e
  ·have e':X1.w.heap.size=bt:=e;omega
  ·have e':X1.w.heap.size=m:=e;omega
  ·have e':X1.w.heap.size=fq:=e;omega
  ·cases e)).trans hfb
 have hPlen:(entP P3).length≤64:=by
  rw [entP_len]
  exact HT.out.2.2.2 P3 hP3.nd (fun p hp=>by obtain ⟨z,_,h9⟩:=allQ_mem (hperm.mem_iff.1 hp);exact ⟨z,h9⟩)
 have PFi:=Lib.hid (ffirst_any f fq m nf3 64 (lookP P3) C3 (entP P3) w3 hP3.fg hPlen (by decide) (Fg.ends (w:=w3) (f:=f) (fq:=fq) (m:=m) (n:=nf3) (C:=C3) hP3.nd hP3.wf))
 have hbs:=hbY.size
 have HC:=Lib.hid (show Chg (fun j=>j=bt) w w3∧(∀ j,gP C3 j→w.heap.size≤j)∧xs.Pairwise (· < ·)∧LevL L role tier 8 xs∧P3.Perm (allQ g.zoom QF xs)∧PlI w3 lo qt bt L f fq m n3 nf3 C3 P3∧n3≤kt+8+17*K from ⟨(Chg.of (X:=fun j=>j=bt) hbY).trans hc3 (fun j hj=>by rcases hj with e|e|e|e;exact .inl e;exact .inr (by omega);exact .inr (by omega);cases e),fun j hj=>Nat.le_trans hbs (hC3 j hj),hpw,hlev,hperm,hP3,hn3⟩)
 clear hP3 hc3 hC3 hw hv hB hF2 hbY hfb hm0b hpw hlev hperm hPY hSY hPlen hn3
 go_wp2_with fail
 refine PFi.out.mono ?_
 rintro e w4 ⟨A,ca,LL,rfl,hown,hLp,hLs,hc4⟩
 have hs34:=HC.out.1.size
 have HE:=Lib.hid (show ∀ e9,e9=Ending.returned (.tuple #[.slice A LL.length ca, .int .i64 0])→Post e9 w4 from fun e9 he=>by
  rw [← hPost]
  exact ⟨A,ca,LL,P3,xs,n3,he,own_base hown hs34,hLp,hLs,HC.out.2.2.1,HC.out.2.2.2.1,HC.out.2.2.2.2.1,HC.out.2.2.2.2.2.1.nd,(HC.out.2.2.2.2.2.1.tb.step (g':=fun _=>False) (fun j _ hj hjs=>hc4.block j hjs (fun e=>hj (e.elim (fun e => .inl (.inl e)) .inr))) hc4.size (fun x hx=>hx.elim)),HC.out.2.2.2.2.2.2,HC.out.1.trans hc4 (fun j hj=>hj.elim (fun e => .inr (by omega)) (fun e => .inr (HC.out.2.1 j e)))⟩)
 clear hown hc4 hLp hLs
 go_wp2_with fail
 first|exact HE.out _ rfl|(go_ret;exact HE.out _ rfl)
set_option maxHeartbeats 8000000 in
theorem topno_nearc (qt:Nat) (role tier:Int) (g:Gr) (q qc:Nat) (px py:Int) (w:World) (hrw:rightW role tier g=false) (hpf:fitsB px py=true):
  Calls Tryz.prog 14 #[(.agg #[.pointer (some ⟨q,0,none⟩), .pointer (some ⟨qc,0,none⟩), .pointer (some ⟨qt,0,none⟩)]),(.agg #[.int .i64 role, .int .i64 tier, .int .i64 g.ops, .int .i64 g.zoom, .int .i64 g.a, .int .i64 g.b, .int .i64 g.c, .int .i64 g.d, .bool g.void, .int .i64 g.til]), .agg #[.int .i64 px, .int .i64 py], .int .i64 64] w fun e w'=>e = .returned (.tuple #[.slice none 0 0, .int .i64 1])∧Below w.heap.size w w':=by
 have pa:=fun (Y:World)=>pask_any q qc qt role tier 64 g true Y (by decide)
 rw [hrw] at pa
 simp only [Bool.false_and,Bool.false_eq_true,if_false] at pa
 have PA:=Lib.hid pa
 have pf:=fun (Y:World)=>fits_any px py Y
 rw [hpf] at pf
 have PF:=Lib.hid pf
 clear pa pf hrw hpf
 go_enter Tryz.func14,Tryz.ntmps14
 go_wp2_with fail
 (refine wp_region_later (w.heap.size+4) (by kernel_rfl) (by kernel_rfl) (by go_size) ?_;(repeat (go_big_quiet_step ((first|(go_at_call 10;exact Later.call _ (Nat.le_trans (by go_size) (Later.is _).size) (PF.out _))|(go_at_call 35;exact Later.call _ (Nat.le_trans (by go_size) (Later.is _).size) (PA.out _))))));refine wpQuiet_nil ?_;intro Xq hlXq hmXq)
 have hbq:Below w.heap.size w Xq.w:=q9l
 have HB:=Lib.hid hbq
 clear hbq
 go_wp2_with fail
 refine bodyPost_ret (by simp only [results,Tryz.results14];go_simp;all_goals (first|rfl|simp [sel])) rfl ⟨rfl,HB.out⟩
end Go.Proofs.YthlijfligikciaaGreat
