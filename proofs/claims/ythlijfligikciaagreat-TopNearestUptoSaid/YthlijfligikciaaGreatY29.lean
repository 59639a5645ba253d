/- A part of one proof: PnE SnE. No condition. -/
import Derived.Test.YthlijfligikciaaGreatY28
namespace Go.Proofs.YthlijfligikciaaGreat
open Go.RowKit Go.Maps
set_option linter.unusedSimpArgs false
set_option linter.unusedVariables false
set_option maxRecDepth 2000
def kw (k:Fin 4→QT):Nat→Nat
 | 0=>0
 | 1=>(k 0).wt
 | 2=>(k 0).wt+(k 1).wt
 | 3=>(k 0).wt+((k 1).wt+(k 2).wt)
 | _=>(k 0).wt+((k 1).wt+((k 2).wt+(k 3).wt))
theorem kw_step {k:Fin 4→QT} {j:Nat} (h:j < 4):kw k (j+1)=kw k j+(k ⟨j,h⟩).wt:=by
 match j,h with
 | 0,_|1,_|2,_|3,_=>simp [kw] <;> omega
theorem kw_le {i:Nat} {k:Fin 4→QT}:∀ j,kw k j+1≤(QT.node i k).wt
 | 0|1|2|3|n+4=>by simp only [kw,QT.wt] <;> omega
theorem holds_many {N:List NdP} {l x y:Int} {t:QT} (h:Holds N l x y t):(ndAt N t.at_).1.many=t.rs.length:=by
 cases t with
 | leaf i rs=>obtain ⟨_,⟨p,hp⟩,_⟩:=h;rw [show (QT.leaf i rs).at_=i from rfl,hp];rfl
 | node i k=>obtain ⟨_,hp,_⟩:=h;rw [show (QT.node i k).at_=i from rfl,hp]
def OpnPost (T:Nat→(Nat→Prop)→World→Prop) (G0:Nat→Prop) (bt k q s sq cc:Nat) (Ct:Option Addr) (N:List NdP) (px py lv:Int) (K:Value) (n:Nat) (C:Option Addr) (M:List En) (kp:Rc→Bool) (R:List Rc) (t:QT) (w:World) (e:Ending) (w':World):Prop:=
 e = .returned (.tuple #[])∧∃ C' I n',SkI T G0 bt k q s sq cc Ct N px py lv K n' C' (I.map It.en ++ M) w'∧Chg (QX bt sq C) w w'∧(∀ j,gP C' j→gP C j∨w.heap.size≤j)∧(itsR kp I).Perm (t.rs.filter kp)∧(∀ i ∈ I,ItOk N kp R i)∧wts I+1≤t.wt∧n'+2*wts I≤n+2*t.wt
set_option maxHeartbeats 16000000 in
theorem popen_any (wb vb zb bt:Nat) (kp:Rc→Bool) (T:Nat→(Nat→Prop)→World→Prop) (EN:Env 44 (fun r:Rc=>#[.agg #[.int .i64 r.id, .int .i64 r.x, .int .i64 r.y, .int .i64 r.label], .pointer (some ⟨wb,0,none⟩), .pointer (some ⟨vb,0,none⟩), .pointer (some ⟨zb,0,none⟩)]) bt kp T) (R:List Rc) (G0:Nat→Prop) (k q s sq cc n:Nat) (Ct C:Option Addr) (N:List NdP) (hN:N.length≤1000000) (px py lv:Int) (M:List En) (t:QT) (l x y:Int) (w:World)
  (h:SkI T G0 bt k q s sq cc Ct N px py lv (.func (.func 44) #[] #[.pointer (some ⟨wb,0,none⟩), .pointer (some ⟨vb,0,none⟩), .pointer (some ⟨zb,0,none⟩)]) n C M w) (hh:Holds N l x y t) (htR:∀ r ∈ t.rs,r ∈ R) (hn9:n+2*t.wt≤400000) (hM:M.length+t.wt≤400000) (hlv:0≤lv∧lv≤16):
  Calls Tryz.prog 90 #[.pointer (some ⟨k,0,none⟩), .int .i64 t.at_] w (OpnPost T G0 bt k q s sq cc Ct N px py lv (.func (.func 44) #[] #[.pointer (some ⟨wb,0,none⟩), .pointer (some ⟨vb,0,none⟩), .pointer (some ⟨zb,0,none⟩)]) n C M kp R t w):=by
 have hfit:=holds_in t l x y hh
 generalize hPost:OpnPost T G0 bt k q s sq cc Ct N px py lv (.func (.func 44) #[] #[.pointer (some ⟨wb,0,none⟩), .pointer (some ⟨vb,0,none⟩), .pointer (some ⟨zb,0,none⟩)]) n C M kp R t w=Post
 cases t with
 | leaf i rs=>
  have hi:i < N.length:=hh.1
  obtain ⟨p,hnode⟩:=hh.2.1
  obtain ⟨g,hCg,hqg,hgl⟩:=h.g.g (by omega)
  have hG:=h.g
  rw [hCg] at hG
  have hk:=h.sk.lt
  have hq:=h.g.lt
  have k0:=h.sk.c0
  have q1:=hG.c1
  have hnb:=h.bs
  have hns:=h.sl
  have hgo:g < sq:=(h.far g (.inr (.inl (by rw [hCg];rfl)))).1
  have hqo:q < sq:=(h.far q (.inl rfl)).1
  have d:=fun (j:Nat) (hj:j < 10) (v:Value) (hv:(ndC (ndAt N i))[j]? = some v)=>hG.cells hi hj hv
  rw [hnode] at d
  have d0:=d 0 (by decide) _ rfl
  have d1:=d 1 (by decide) _ rfl
  have d2:=d 2 (by decide) _ rfl
  have d3:=d 3 (by decide) _ rfl
  have d4:=d 4 (by decide) _ rfl
  have d5:=d 5 (by decide) _ rfl
  have d6:=d 6 (by decide) _ rfl
  have d7:=d 7 (by decide) _ rfl
  have d8:=d 8 (by decide) _ rfl
  have d9:=d 9 (by decide) _ rfl
  simp only [Nat.add_zero,noKids] at d0 d1 d2 d3 d4 d5 d6 d7 d8 d9
  obtain ⟨nn,hn⟩:∃ n,N.length=n:=⟨_,rfl⟩
  have hrow:=h.g.rows i hi
  rw [hnode] at hrow
  simp only at hrow
  have hpo:∀ z,gP p.1 z→¬ QX bt sq C z:=fun z hz=>h.ng z (.inr (.inr ⟨i,hi,by rw [hnode];exact hz⟩))
  have hpo2:∀ z,gP p.1 z→z < sq∧z≠bt:=fun z hz=>h.far z (.inr (.inr ⟨i,hi,by rw [hnode];exact hz⟩))
  rw [hn] at q1 hi hN
  obtain ⟨m,hm⟩:∃ m,rs.length=m:=⟨_,rfl⟩
  have hwt:(QT.leaf i rs).wt=1+2*m:=by simp [QT.wt,hm]
  rw [hwt] at hn9 hM
  have H:=Lib.hid (show SkI T G0 bt k q s sq cc Ct N px py lv (.func (.func 44) #[] #[.pointer (some ⟨wb,0,none⟩), .pointer (some ⟨vb,0,none⟩), .pointer (some ⟨zb,0,none⟩)]) n C M w∧rs.length=m∧w.ownsRow (q+1) 32 4 (.slice p.1 m p.2) m (rcF rs) from ⟨h,hm,by rw [← hm];exact hrow⟩)
  have HPO:=Lib.hid hpo2
  have HF:=Lib.hid (And.intro hfit (And.intro htR (And.intro hlv hwt)))
  rw [hm] at d7 d9
  rw [show (QT.leaf i rs).at_=i from rfl]
  clear h hh hnode d hrow hn hm hpo hpo2 hfit htR hlv hwt hG hCg
  go_enter Tryz.func90,Tryz.ntmps90
  go_wp2_with fail
  go_loopw [22] (fun a wr=>∃ j:Nat,a = .int .i64 j∧j≤m∧w.heap.size+1≤wr.heap.size∧(wr.cell? ⟨w.heap.size,8,none⟩=some (.bool false)∧wr.cell? ⟨k,0,none⟩=some (.pointer (some ⟨q,0,none⟩)))∧Hid (∃ C' I,SkI T G0 bt k q s sq cc Ct N px py lv (.func (.func 44) #[] #[.pointer (some ⟨wb,0,none⟩), .pointer (some ⟨vb,0,none⟩), .pointer (some ⟨zb,0,none⟩)]) (n+2*j) C' (I.map It.en ++ M) wr∧Chg (QX bt sq C) w wr∧(∀ z,gP C' z→gP C z∨w.heap.size+1≤z)∧(itsR kp I).Perm ((rs.take j).filter kp)∧(∀ i ∈ I,ItOk N kp R i)∧wts I≤j)) (fun a _=>m - (intOf a).toNat)
  case atStart=>exact ⟨0,rfl,by omega,by simp,⟨by go_simp,by go_simp⟩,⟨C,[],by simpa using H.out.1.keep EN ((Below.refl _ _).alloc (Nat.le_refl _) _),Chg.refl.alloc _,fun z hz => .inl hz,by simp [itsR],fun i hi=>by (cases hi),Nat.le_refl _⟩⟩
  case round=>
   obtain ⟨j,rfl,hjm,hsz,⟨z8,zk⟩,hrel⟩:=hrel
   obtain ⟨C1,I1,hs1,hc1,hg1,hp1,ho1,hw1⟩:=hrel.out
   by_cases hj:j < m
   ·have hdj:decide ((j:Int) < (m:Int))=true:=decide_eq_true (by omega)
    have hnx:∀ z,(Value.slice p.1 m p.2).ownBlock=some z→¬ QX bt sq C z:=fun z hz e=>by
     rw [gOf_own] at hz
     have h1:=HPO.out z hz
     rcases e with e|e|e
     ·exact h1.2 e
     ·omega
     ·have:=H.out.1.qh.far z e;omega
    have hrl:j < rs.length:=by rw [H.out.2.1];exact hj
    obtain ⟨r,hr⟩:∃ r,rs[j]=r:=⟨_,rfl⟩
    have hrm:r ∈ rs:=by rw [← hr];exact List.getElem_mem hrl
    have hown:=own_chg H.out.2.2 hc1 hnx
    obtain ⟨b,cap2,hv,hlo,hbl⟩:=hown.form (by omega)
    have hpb:p.1=some ⟨b,0,none⟩:=by injection hv
    have rc0:∀ m v,m < 4→(rcC r)[m]? = some v→wr.cell? ⟨b,j*4+m,none⟩=some v:=fun m v hm hv9=>by
     have h9:=hown.cells (g:=b) (by rw [hpb];rfl) (j*4+m) v (by
      have:=flat_get rcC_len rs j hrl m hm
      unfold rcF
      rw [this,hr]
      exact hv9)
     rw [Addr.add_lit,Nat.zero_add] at h9
     exact h9
    have r0:=rc0 0 _ (by decide) rfl
    have r1:=rc0 1 _ (by decide) rfl
    have r2:=rc0 2 _ (by decide) rfl
    have r3:=rc0 3 _ (by decide) rfl
    simp only [Nat.add_zero] at r0
    have htk:rs.take (j+1)=rs.take j ++ [r]:=by rw [List.take_succ_eq_append_getElem hrl,hr]
    have hwn:¬ QX bt sq C1 w.heap.size:=fun e=>by
     rcases e with e|e|e
     ·omega
     ·omega
     ·rcases hg1 _ e with e'|e'
      ·have:=H.out.1.qh.far _ e';omega
      ·omega
    have hkn:¬ QX bt sq C1 k:=hs1.nk
    have hlen:(I1.map It.en ++ M).length≤400000:=by
     have:=wts_len I1
     rw [List.length_append,List.length_map]
     omega
    have HZ:=Lib.hid (And.intro hs1 (And.intro hc1 (And.intro hg1 (And.intro hp1 (And.intro ho1 (And.intro hw1 (And.intro hrm htk)))))))
    clear hrel hs1 hc1 hg1 rc0 hv hown hp1 ho1 hw1 hrm hr hnx htk
    rw [hpb]
    go_wp2_with fail
    go_at_call 123
    have hbz:Below wr.heap.size wr (wr.alloc (.cells #[.int .i64 r.id, .int .i64 r.x, .int .i64 r.y, .int .i64 r.label] 32)):=(Below.refl _ _).alloc (Nat.le_refl _) _
    refine (record_ski EN r (HZ.out.1.keep EN hbz) (by omega) hlen HF.out.2.2.1 (HF.out.1 r HZ.out.2.2.2.2.2.2.1)).mono ?_
    rintro e w6 ⟨rfl,C2,dd,hs2,hc2,hg2⟩
    have hz2:=hc2.size
    rw [World.size_alloc] at hz2 hg2
    have z86:w6.cell? ⟨w.heap.size,8,none⟩=some (.bool false):=(hc2.cell (p:=⟨w.heap.size,8,none⟩) (by rw [World.size_alloc];show w.heap.size < _;omega) hwn).trans (by go_simp)
    have zk6:w6.cell? ⟨k,0,none⟩=some (.pointer (some ⟨q,0,none⟩)):=hs2.sk.c0
    have HE:=Lib.hid (show ∃ C' I,SkI T G0 bt k q s sq cc Ct N px py lv (.func (.func 44) #[] #[.pointer (some ⟨wb,0,none⟩), .pointer (some ⟨vb,0,none⟩), .pointer (some ⟨zb,0,none⟩)]) (n+2*(j+1)) C' (I.map It.en ++ M) w6∧Chg (QX bt sq C) w w6∧(∀ z,gP C' z→gP C z∨w.heap.size+1≤z)∧(itsR kp I).Perm ((rs.take (j+1)).filter kp)∧(∀ i ∈ I,ItOk N kp R i)∧wts I≤j+1 by
     obtain ⟨_,hc1,hg1,hp1,ho1,hw1,hrm,htk⟩:=HZ.out
     have hcc:Chg (QX bt sq C) w w6:=(hc1.alloc _).trans hc2 (fun z hz=>(QX_trans (bt:=bt) (sq:=sq) (C:=C) (w:=w) (fun j hj=>(hg1 j hj).elim .inl (fun e => .inr (by omega))) z hz))
     have hgg:∀ z,gP C2 z→gP C z∨w.heap.size+1≤z:=fun z hz=>(hg2 z hz).elim (hg1 z) (fun e => .inr (by omega))
     rw [htk,filter_snoc,show n+2*(j+1)=n+2*j+2 by omega]
     cases hk:kp r with
     | true=>
      rw [hk] at hs2
      exact ⟨C2, .rc dd r :: I1,by simpa [It.en] using hs2,hcc,hgg,by
       rw [its_cons]
       exact (hp1.append_left [r]).trans List.perm_append_comm,fun i hi=>by
       rcases List.mem_cons.1 hi with rfl|hi
       ·exact ⟨HF.out.2.1 r hrm,hk⟩
       ·exact ho1 i hi,by rw [wts_cons];show 1+wts I1≤_;omega⟩
     | false=>
      rw [hk] at hs2
      exact ⟨C2,I1,by simpa using hs2,hcc,hgg,by simpa using hp1,ho1,by omega⟩)
    clear hs2 hc2 hg2 hbz r0 r1 r2 r3 zk
    go_wp2_with fail
    go_roundw
    case rel=>exact ⟨j+1,by go_num,by omega,by omega,⟨z86,zk6⟩,HE.out⟩
    case measure=>simp [intOf];omega
   ·obtain rfl:j=m:=by omega
    have hdj:decide ((j:Int) < (j:Int))=false:=decide_eq_false (by omega)
    have HE:=Lib.hid (show Post (.returned (.tuple #[])) wr by
     rw [← hPost]
     refine ⟨rfl,C1,I1,n+2*j,hs1,hc1,fun z hz=>(hg1 z hz).elim .inl (fun e => .inr (by omega)),?_,ho1,?_,?_⟩
     ·rw [show rs.take j=rs from by rw [← H.out.2.1,List.take_length]] at hp1
      exact hp1
     ·rw [HF.out.2.2.2];omega
     ·rw [HF.out.2.2.2];omega)
    clear hrel hs1 hc1 hg1 hp1 ho1 hw1
    go_wp2_with fail
    exact bodyPost_end (v := .tuple #[]) (by first|rfl|kernel_rfl) rfl HE.out
 | node i kk=>
  have hi:i < N.length:=hh.1
  have hnode:=hh.2.1
  have hkids:=hh.2.2.2.2
  obtain ⟨g,hCg,hqg,hgl⟩:=h.g.g (by omega)
  have hG:=h.g
  rw [hCg] at hG
  have hk:=h.sk.lt
  have hq:=h.g.lt
  have k0:=h.sk.c0
  have q1:=hG.c1
  have hnb:=h.bs
  have hns:=h.sl
  have hgo:g < sq:=(h.far g (.inr (.inl (by rw [hCg];rfl)))).1
  have hqo:q < sq:=(h.far q (.inl rfl)).1
  have d:=fun (j:Nat) (hj:j < 10) (v:Value) (hv:(ndC (ndAt N i))[j]? = some v)=>hG.cells hi hj hv
  rw [hnode] at d
  have d0:=d 0 (by decide) _ rfl
  have d1:=d 1 (by decide) _ rfl
  have d2:=d 2 (by decide) _ rfl
  have d3:=d 3 (by decide) _ rfl
  have d4:=d 4 (by decide) _ rfl
  have d5:=d 5 (by decide) _ rfl
  have d6:=d 6 (by decide) _ rfl
  have d7:=d 7 (by decide) _ rfl
  have d8:=d 8 (by decide) _ rfl
  have d9:=d 9 (by decide) _ rfl
  simp only [Nat.add_zero,noKids] at d0 d1 d2 d3 d4 d5 d6 d7 d8 d9
  obtain ⟨nn,hn⟩:∃ n,N.length=n:=⟨_,rfl⟩
  have H:=Lib.hid (show SkI T G0 bt k q s sq cc Ct N px py lv (.func (.func 44) #[] #[.pointer (some ⟨wb,0,none⟩), .pointer (some ⟨vb,0,none⟩), .pointer (some ⟨zb,0,none⟩)]) n C M w∧(∀ j,Holds N (l+1) (kx x j) (ky y j) (kk j)) from ⟨h,hkids⟩)
  rw [hn] at q1 hi hN
  have HN:=Lib.hid hn
  obtain ⟨m,hm⟩:∃ m,(QT.node i kk).rs.length=m:=⟨_,rfl⟩
  rw [hm] at d7
  have HW:=Lib.hid (And.intro htR (And.intro hn9 hM))
  rw [show (QT.node i kk).at_=i from rfl]
  have hix:∀ (j:Nat) (hj:j < 4) (W:World),(Instr.index 184 (.agg #[.int .i64 ((kk 0).at_:Nat), .int .i64 ((kk 1).at_:Nat), .int .i64 ((kk 2).at_:Nat), .int .i64 ((kk 3).at_:Nat)]) (.int .i64 (j:Nat))).run Tryz.prog W = .ok (.int .i64 ((kk ⟨j,hj⟩).at_:Nat)) W:=fun j hj W=>by
   match j,hj with
   | 0,_=>rfl
   | 1,_=>rfl
   | 2,_=>rfl
   | 3,_=>rfl
  have HIX:=Lib.hid hix
  clear h hh hnode d hn hm hkids hix htR hn9 hM hfit hG hCg
  go_enter Tryz.func90,Tryz.ntmps90
  go_wp2_with fail
  go_loopw [22] (fun a wr=>a = .int .i64 0∧wr=w.alloc (.cells #[.int .i64 l, .int .i64 x, .int .i64 y, .int .i64 ((kk 0).at_:Nat), .int .i64 ((kk 1).at_:Nat), .int .i64 ((kk 2).at_:Nat), .int .i64 ((kk 3).at_:Nat), .int .i64 (m:Nat), .bool true, .slice none 0 0] 186))  (fun a _=>0)
  case atStart=>exact ⟨rfl,rfl⟩
  case round=>
   obtain ⟨rfl,rfl⟩:=hrel
   go_wp2_with fail
   go_loopw [34] (fun a wr=>∃ j:Nat,a = .int .i64 j∧j≤4∧w.heap.size+1≤wr.heap.size∧Hid (∃ C' I,SkI T G0 bt k q s sq cc Ct N px py lv (.func (.func 44) #[] #[.pointer (some ⟨wb,0,none⟩), .pointer (some ⟨vb,0,none⟩), .pointer (some ⟨zb,0,none⟩)]) n C' (I.map It.en ++ M) wr∧Chg (QX bt sq C) w wr∧(∀ z,gP C' z→gP C z∨w.heap.size≤z)∧(itsR kp I).Perm ((kr kk j).filter kp)∧(∀ i ∈ I,ItOk N kp R i)∧wts I≤kw kk j)) (fun a _=>4 - (intOf a).toNat)
   case atStart=>exact ⟨0,rfl,by omega,by simp,⟨C,[],by simpa using H.out.1.keep EN ((Below.refl _ _).alloc (Nat.le_refl _) _),Chg.refl.alloc _,fun z hz => .inl hz,by simp [itsR,kr],fun i hi=>by (cases hi),Nat.le_refl _⟩⟩
   case round=>
    obtain ⟨j,rfl,hjm,hsz,hrel⟩:=hrel
    obtain ⟨C1,I1,hs1,hc1,hg1,hp1,ho1,hw1⟩:=hrel.out
    by_cases hj:j < 4
    ·have hdj:decide ((j:Int) < 4)=true:=decide_eq_true (by omega)
     have hix:=HIX.out j hj
     have hkh:=H.out.2 ⟨j,hj⟩
     have hkl:=holds_ndlt hkh
     have hkm:=holds_many hkh
     have hlen:(I1.map It.en ++ M).length≤500000:=by
      have:=wts_len I1
      have:=kw_le (i:=i) (k:=kk) j
      have:=HW.out.2.2
      rw [List.length_append,List.length_map]
      omega
     have PP:=Lib.hid (node_ski EN (kk ⟨j,hj⟩).at_ hs1 hkl (by rw [HN.out];exact hN) hlen)
     rw [hkm] at PP
     have HZ:=Lib.hid (And.intro hc1 (And.intro hg1 (And.intro hp1 (And.intro ho1 hw1))))
     clear hrel hs1 hc1 hg1 hp1 ho1 hw1 hkh hkl hkm
     obtain ⟨ka,hka⟩:∃ z:Nat,(kk ⟨j,hj⟩).at_=z:=⟨_,rfl⟩
     have HKA:=Lib.hid hka
     rw [hka] at hix PP
     clear hka
     go_wp2_with fail
     go_at_call 88
     refine PP.out.mono ?_
     rintro e w6 ⟨rfl,C2,dd,hs2,hc2,hg2⟩
     have hz2:=hc2.size
     have HE:=Lib.hid (show ∃ C' I,SkI T G0 bt k q s sq cc Ct N px py lv (.func (.func 44) #[] #[.pointer (some ⟨wb,0,none⟩), .pointer (some ⟨vb,0,none⟩), .pointer (some ⟨zb,0,none⟩)]) n C' (I.map It.en ++ M) w6∧Chg (QX bt sq C) w w6∧(∀ z,gP C' z→gP C z∨w.heap.size≤z)∧(itsR kp I).Perm ((kr kk (j+1)).filter kp)∧(∀ i ∈ I,ItOk N kp R i)∧wts I≤kw kk (j+1) by
      obtain ⟨hc1,hg1,hp1,ho1,hw1⟩:=HZ.out
      have hcc:Chg (QX bt sq C) w w6:=hc1.trans hc2 (fun z hz=>(QX_trans (bt:=bt) (sq:=sq) (C:=C) (w:=w) hg1 z hz))
      have hgg:∀ z,gP C2 z→gP C z∨w.heap.size≤z:=fun z hz=>(hg2 z hz).elim (hg1 z) (fun e => .inr (by omega))
      rw [kr_step hj,kw_step hj,List.filter_append]
      by_cases h0:(kk ⟨j,hj⟩).rs.length=0
      ·rw [if_pos h0] at hs2
       rw [List.length_eq_zero_iff.1 h0]
       exact ⟨C2,I1,hs2,hcc,hgg,by simpa using hp1,ho1,by omega⟩
      ·rw [if_neg h0] at hs2
       refine ⟨C2, .nd dd (kk ⟨j,hj⟩) :: I1,by rw [List.map_cons,List.cons_append,show (It.nd dd (kk ⟨j,hj⟩)).en=⟨dd,0,(ka:Nat)⟩ by rw [← HKA.out];rfl];exact hs2,hcc,hgg,?_,fun i hi=>?_,by rw [wts_cons];show (kk ⟨j,hj⟩).wt+wts I1≤_;omega⟩
       ·rw [its_cons]
        exact (hp1.append_left _).trans List.perm_append_comm
       ·rcases List.mem_cons.1 hi with rfl|hi
        ·exact ⟨_,_,_,H.out.2 ⟨j,hj⟩,fun r hr=>HW.out.1 r (rs_kid.2 ⟨⟨j,hj⟩,hr⟩)⟩
        ·exact ho1 i hi)
     clear hs2 hc2 hg2 hix
     go_wp2_with fail
     go_roundw
     case rel=>exact ⟨j+1,by go_num,by omega,by omega,HE.out⟩
     case measure=>simp [intOf];omega
    ·obtain rfl:j=4:=by omega
     have hdj:decide (((4:Nat):Int) < 4)=false:=by decide
     have HE:=Lib.hid (show Post (.returned (.tuple #[])) wr by
      rw [← hPost]
      have hw:=kw_le (i:=i) (k:=kk) 4
      exact ⟨rfl,C1,I1,n,hs1,hc1,hg1,hp1,ho1,by omega,by omega⟩)
     clear hrel hs1 hc1 hg1 hp1 ho1 hw1
     go_wp2_with fail
     exact bodyPost_end (v := .tuple #[]) (by first|rfl|kernel_rfl) rfl HE.out
def RecPost (G:Nat→Prop) (lo qt bt kt:Nat) (L:List Rl) (sq:Nat) (Cq:Option Addr) (dd id:Int) (w:World) (e:Ending) (w':World):Prop:=
 e = .returned (.tuple #[])∧∃ C' cc',Qu w' sq C' 1 cc' [.int .u64 dd, .int .u64 1, .int .i64 id]∧Tb w' lo qt bt (kt+2) L (gU G C')∧Chg (fun j=>j=bt∨j=sq∨gP Cq j) w w'∧∀ j,gP C' j→gP Cq j∨w.heap.size≤j
set_option maxHeartbeats 16000000 in
theorem open_first (G:Nat→Prop) (lo qt bt kt:Nat) (L:List Rl) (Pp Pc:Option Addr) (role tier id x y label z:Int) (g:Gr) (wb vb zb:Nat) (k q s sq cc cq cd bd:Nat) (C Cq D:Option Addr) (px py lv:Int) (w:World) (ht:Tb w lo qt bt kt L G) (hgw:∀ x,G x→x < w.heap.size) (hkt:kt+1 < 1000000) (hcnt:cntB L≤1048576) (hn1:L.length≤1000000) (hw:Wb w wb Pp Pc qt) (hv:Vb w vb role tier g) (hz:w.cell? ⟨zb,0,none⟩=some (.int .i64 z)) (hne:wb≠bt∧vb≠bt∧zb≠bt∧k≠bt)
  (hkeep:(seeB L role tier g x y label && (zoomT L role tier label x y == z))=true) (h:Sk w k q sq px py lv (.func (.func 44) #[] #[.pointer (some ⟨wb,0,none⟩), .pointer (some ⟨vb,0,none⟩), .pointer (some ⟨zb,0,none⟩)])) (hq:Qu w sq Cq 0 cq []) (hG:∀ j,(j=sq∨gP Cq j)→G j) (hlv:0≤lv∧lv≤16) (hf:fitsB x y=true) (hp:Pt1 w s q C cc 1 (.slice D 1 cd)) (hD:w.ownsRow bd 32 4 (.slice D 1 cd) 1 [.int .i64 id, .int .i64 x, .int .i64 y, .int .i64 label]):
  Calls Tryz.prog 90 #[.pointer (some ⟨k,0,none⟩), .int .i64 0] w (RecPost G lo qt bt kt L sq Cq (farI lv (x / sd lv) (y / sd lv) px py) id w):=by
 have PR:=Lib.hid (fun (Y:World) (hY:Below w.heap.size w Y)=>record_first G lo qt bt kt L Pp Pc role tier id x y label z g wb vb zb k q sq cq Cq px py lv Y (ht.keep hY) (fun x e=>Nat.lt_of_lt_of_le (hgw x e) hY.size) hkt hcnt hn1 (hw.chg (X:=fun _=>False) (Chg.of hY) (fun e=>e)) (hv.chg (X:=fun _=>False) (Chg.of hY) (fun e=>e)) ((hY.cell (p:=⟨zb,0,none⟩) (cell_lt hz)).trans hz) hne hkeep (h.chg (X:=fun _=>False) (Chg.of hY) (fun e=>e)) (hq.keep hY) hG hlv hf)
 have hkl:=h.lt
 have hql:=hp.lt
 have c0:=h.c0
 have q1:=hp.c1
 obtain ⟨gn,cap,hv9,hlo9,hgl⟩:=hp.own.form (by omega)
 have hC:C=some ⟨gn,0,none⟩:=by injection hv9
 subst hC
 have hown:=hp.own
 unfold nodeV at hown
 have d0:=hown.cells (g:=gn) rfl 0 _ rfl
 have d1:=hown.cells (g:=gn) rfl 1 _ rfl
 have d2:=hown.cells (g:=gn) rfl 2 _ rfl
 have d3:=hown.cells (g:=gn) rfl 3 _ rfl
 have d4:=hown.cells (g:=gn) rfl 4 _ rfl
 have d5:=hown.cells (g:=gn) rfl 5 _ rfl
 have d6:=hown.cells (g:=gn) rfl 6 _ rfl
 have d7:w.cell? ((⟨gn,0,none⟩:Addr).add 7)=some (.int .i64 1):=hown.cells (g:=gn) rfl 7 _ rfl
 have d8:=hown.cells (g:=gn) rfl 8 _ rfl
 have d9:=hown.cells (g:=gn) rfl 9 _ rfl
 rw [Addr.add_lit] at d0 d1 d2 d3 d4 d5 d6 d7 d8 d9
 simp only [Nat.zero_add] at d0 d1 d2 d3 d4 d5 d6 d7 d8 d9
 obtain ⟨gd,capd,hvd,hlod,hgdl⟩:=hD.form (by omega)
 have hDD:D=some ⟨gd,0,none⟩:=by injection hvd
 subst hDD
 have r0:=hD.cells (g:=gd) rfl 0 _ rfl
 have r1:=hD.cells (g:=gd) rfl 1 _ rfl
 have r2:=hD.cells (g:=gd) rfl 2 _ rfl
 have r3:=hD.cells (g:=gd) rfl 3 _ rfl
 rw [Addr.add_lit] at r0 r1 r2 r3
 simp only [Nat.zero_add] at r0 r1 r2 r3
 have HF:=Lib.hid (show ∀ w1 w2 w3,Below w.heap.size w w1→RecPost G lo qt bt kt L sq Cq (farI lv (x / sd lv) (y / sd lv) px py) id w1 (.returned (.tuple #[])) w2→Below w2.heap.size w2 w3→RecPost G lo qt bt kt L sq Cq (farI lv (x / sd lv) (y / sd lv) px py) id w (.returned (.tuple #[])) w3 from
  fun w1 w2 w3 h1 ⟨_,C',cc',hq2,hT2,hc2,hC2⟩ h3=>⟨rfl,C',cc',hq2.keep h3,hT2.keep h3,((Chg.of (X:=fun j=>j=bt∨j=sq∨gP Cq j) h1).trans hc2 (fun k hk => .inl hk)).trans (Chg.of (X:=fun _=>False) h3) (fun k hk=>hk.elim),fun j hj=>(hC2 j hj).elim .inl (fun e => .inr (Nat.le_trans h1.size e))⟩)
 have PR2:=Lib.hid (fun (Y:World) (hY:Below w.heap.size w Y)=>(show Calls Tryz.prog 123 #[.pointer (some ⟨k,0,none⟩), .agg #[.int .i64 id, .int .i64 x, .int .i64 y, .int .i64 label]] Y (RecPost G lo qt bt kt L sq Cq (farI lv (x / sd lv) (y / sd lv) px py) id Y) from PR.out Y hY))
 have HRP:=Lib.hid (show ∀ e w1 w2,RecPost G lo qt bt kt L sq Cq (farI lv (x / sd lv) (y / sd lv) px py) id w1 e w2→e = .returned (.tuple #[])∧w1.heap.size≤w2.heap.size from fun e w1 w2 ⟨h1,C',cc',_,_,hc,_⟩=>⟨h1,hc.size⟩)
 have hnn:=hne.2.2.2
 have hbl:=ht.ltb
 have HSt:=Lib.hid (show ∀ w1 w2,Below w.heap.size w w1→RecPost G lo qt bt kt L sq Cq (farI lv (x / sd lv) (y / sd lv) px py) id w1 (.returned (.tuple #[])) w2→∀ j i,w.heap.size≤j→j < w1.heap.size→w2.cell? ⟨j,i,none⟩=w1.cell? ⟨j,i,none⟩ from fun w1 w2 hb ⟨_,C',cc',_,_,hc,_⟩ j i h1 h2=>hc.cell (p:=⟨j,i,none⟩) h2 (fun e=>by
  rcases e with e|e|e
  ·have e':j=bt:=e;omega
  ·have e':j=sq:=e;have:=hgw sq (hG sq (.inl rfl));omega
  ·have:=hgw j (hG j (.inr e));omega))
 generalize farI lv (x / sd lv) (y / sd lv) px py=dd at HF PR2 HRP HSt ⊢
 clear PR ht hgw hcnt hn1 hw hv hz hkeep hq hG hlv hf hne h hkt hp hown hD hv9 hvd
 go_enter Tryz.func90,Tryz.ntmps90
 go_wp2_with fail
 go_loopw [22] (fun i wr=>∃ j:Nat,j≤1∧i = .int .i64 j∧Hid ((j=0→wr=w.alloc (.cells #[.int .i64 0, .int .i64 0, .int .i64 0, .int .i64 (-1), .int .i64 (-1), .int .i64 (-1), .int .i64 (-1), .int .i64 1, .bool false, .slice (some ⟨gd,0,none⟩) 1 cd] 186))∧(j=1→RecPost G lo qt bt kt L sq Cq dd id w (.returned (.tuple #[])) wr∧wr.cell? ⟨w.heap.size,8,none⟩=some (.bool false)))) (fun i _=>1 - (intOf i).toNat)
 case atStart=>exact ⟨0,by decide,rfl,⟨fun _=>rfl,fun e=>by cases e⟩⟩
 case round=>
  obtain ⟨j,hj,rfl,hrel⟩:=hrel
  match j,hj with
  | 0,_=>
   obtain rfl:=hrel.out.1 rfl
   clear hrel hj
   go_wp2_with fail
   go_at_call 123
   refine (PR2.out _ q9l).mono ?_
   intro e w2 hrp
   obtain ⟨rfl,hs2⟩:=HRP.out _ _ _ hrp
   have HE:=Lib.hid (show RecPost G lo qt bt kt L sq Cq dd id w (.returned (.tuple #[])) w2∧w2.cell? ⟨w.heap.size,8,none⟩=some (.bool false) from ⟨HF.out _ _ _ q9l hrp (Below.refl _ _),(HSt.out _ _ q9l hrp w.heap.size 8 (Nat.le_refl _) (by simp;omega)).trans (by go_simp)⟩)
   clear hrp
   go_wp2_with fail
   go_roundw
   case rel=>exact ⟨1,by decide,by go_num,⟨fun e=>(by cases e),fun _=>HE.out⟩⟩
   case measure=>show 1 - 1 < 1 - 0;decide
  | 1,_=>
   have HE:=Lib.hid (hrel.out.2 rfl)
   have z8:=HE.out.2
   clear hrel
   go_wp2_with fail
   exact bodyPost_end (v := .tuple #[]) (by first|rfl|kernel_rfl) rfl HE.out.1
end Go.Proofs.YthlijfligikciaaGreat
