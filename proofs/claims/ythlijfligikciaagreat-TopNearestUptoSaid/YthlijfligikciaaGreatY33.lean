/- A part of one proof: HpE HpF PlD. No condition. -/
import Derived.Test.YthlijfligikciaaGreatY27
import Derived.Test.YthlijfligikciaaGreatY32
import Derived.Test.YthlijfligikciaaGreatY30
namespace Go.Proofs.YthlijfligikciaaGreat
open Go.RowKit Go.Maps
set_option linter.unusedSimpArgs false
set_option linter.unusedVariables false
set_option maxRecDepth 2000
def snC (s:Sn):List Value:=[.int .i64 s.id, .int .i64 s.lv, .int .i64 s.a, .int .i64 s.b, .int .i64 s.c, .int .i64 s.d]
def snV (s:Sn):Value := .agg #[.int .i64 s.id, .int .i64 s.lv, .int .i64 s.a, .int .i64 s.b, .int .i64 s.c, .int .i64 s.d]
def snF (L:List Sn):List Value:=L.flatMap snC
theorem snF_app (L:List Sn) (s:Sn):snF (L ++ [s])=snF L ++ snC s:=by simp [snF]
theorem snF_get:∀ (L:List Sn) (i:Nat),i < L.length→∀ j,j < 6→(snF L)[i*6+j]? = (snC (L.getD i sn0))[j]?
 | e :: es,0,_,j,hj=>by
  simp only [snF,List.flatMap_cons,Nat.zero_mul,Nat.zero_add]
  rw [List.getElem?_append_left (by show j < 6;exact hj)]
  rfl
 | e :: es,i+1,h,j,hj=>by
  have ih:=snF_get es i (by simpa using h) j hj
  simp only [snF,List.flatMap_cons] at ih ⊢
  have h3:(snC e).length=6:=rfl
  rw [List.getElem?_append_right (by omega),h3,show (i+1)*6+j - 6=i*6+j by omega,ih]
  rfl
theorem sns_own {w:World} {base n c:Nat} {A:Option Addr} {L:List Sn} (h:w.ownsRow base 48 6 (.slice A n c) n (snF L)) (hn:L.length=n):Sns w w.heap.size A L:=fun hp=>by
 subst hn
 obtain ⟨g,cap,hv,_,hlt⟩:=h.form (by omega)
 have hA:A=some ⟨g,0,none⟩:=by injection hv
 subst hA
 refine ⟨g,0,rfl,hlt,fun i hi=>?_⟩
 have hcell:∀ j,j < 6→∀ v,(snC (L.getD i sn0))[j]? = some v→w.cell? ⟨g,0+i*6+j,none⟩=some v:=fun j hj v hv=>by
  have:=h.cells (g:=g) rfl (i*6+j) v (by rw [snF_get L i hi j hj];exact hv)
  rw [Addr.add_lit] at this
  rw [Nat.add_assoc]
  exact this
 exact ⟨hcell 0 (by decide) _ rfl,hcell 1 (by decide) _ rfl,hcell 2 (by decide) _ rfl,hcell 3 (by decide) _ rfl,hcell 4 (by decide) _ rfl,hcell 5 (by decide) _ rfl⟩
structure Fg (w:World) (f fq m n:Nat) (S:Int→Option Sn) (C:Option Addr) (M:List En):Prop where
 c0:w.cell? ⟨f,0,none⟩=some (.pointer (some ⟨fq,0,none⟩))
 c1:w.cell? ⟨f,1,none⟩=some (.map (some m))
 q:QH w fq C M
 mp:M1 w m n (fun x=>(S x).map snV)
 ord:fq < m∧m < f
 far:∀ k,gP C k→k≠m∧k≠f
theorem Fg.lt {w:World} {f fq m n:Nat} {S:Int→Option Sn} {C:Option Addr} {M:List En} (h:Fg w f fq m n S C M):f < w.heap.size:=cell_lt h.c0
theorem Fg.chg {X:Nat→Prop} {w w':World} {f fq m n:Nat} {S:Int→Option Sn} {C:Option Addr} {M:List En} (h:Fg w f fq m n S C M) (hc:Chg X w w') (h1:¬ X f) (h2:¬ X fq) (h3:¬ X m) (h4:∀ k,gP C k→¬ X k):Fg w' f fq m n S C M:=
 ⟨(hc.cell (p:=⟨f,0,none⟩) h.lt h1).trans h.c0,(hc.cell (p:=⟨f,1,none⟩) h.lt h1).trans h.c1,h.q.chg hc h2 h4,h.mp.chg hc h3,h.ord,h.far⟩
theorem Fg.keep {w w':World} {f fq m n:Nat} {S:Int→Option Sn} {C:Option Addr} {M:List En} (h:Fg w f fq m n S C M) (hb:Below w.heap.size w w'):Fg w' f fq m n S C M:=h.chg (X:=fun _=>False) (Chg.of hb) (fun e=>e) (fun e=>e) (fun e=>e) (fun _ _ e=>e)
theorem Fg.ofFd {w:World} {f fq m:Nat} (h:Fd w f fq m 0 (fun _=>none) none 0 0 []):Fg w f fq m 0 (fun _=>none) none []:=
 ⟨h.c0,h.c1,⟨0,0,[],h.q,rfl,fun k _ hk=>absurd hk (by omega),List.Perm.refl _⟩,h.mp,h.ord,h.far⟩
set_option maxHeartbeats 16000000 in
theorem fput_any (f fq m n:Nat) (S:Int→Option Sn) (C:Option Addr) (M:List En) (key:Int) (s:Sn) (w:World) (h:Fg w f fq m n S C M) (hid:wf64 s.id) (hn:n < 1000000) (hM:M.length≤500000):
  Calls Tryz.prog 41 #[.pointer (some ⟨f,0,none⟩), .int .u64 key, .agg #[.int .i64 s.id, .int .i64 s.lv, .int .i64 s.a, .int .i64 s.b, .int .i64 s.c, .int .i64 s.d]] w fun e w'=>e = .returned (.tuple #[])∧∃ C',Fg w' f fq m (n+1) (fun x=>if x=s.id then some ((S s.id).getD s) else S x) C' (if (S s.id).isSome then M else ⟨key,0,s.id⟩ :: M)∧Chg (fun j=>j=m∨j=fq∨gP C j) w w'∧∀ j,gP C' j→gP C j∨w.heap.size≤j:=by
 have H:=Lib.hid h
 have c0:=h.c0
 have c1:=h.c1
 have hf:=h.lt
 have hm:=h.mp.lt
 have ho:=h.ord
 have hlk:=fun (W:World) (hW:W.heap[m]? = w.heap[m]?)=>(h.mp.same hW).lookOk (mt:=156) Tryz.underlying156 (zero_seen W) hid
 obtain ⟨om,hom⟩:∃ o,w.heap[m]? = o:=⟨_,rfl⟩
 rw [hom] at hlk
 clear h
 cases hS:S s.id with
 | some v=>
  rw [hS] at hlk
  simp only [Option.map_some,Option.getD_some,Option.isSome_some,snV] at hlk
  go_enter Tryz.func41,Tryz.ntmps41
  go_wp2_with fail
  have hb0:Below w.heap.size w (w.alloc (.cells #[.int .i64 s.id, .int .i64 s.lv, .int .i64 s.a, .int .i64 s.b, .int .i64 s.c, .int .i64 s.d] 48)).drew:=((Below.refl w.heap.size w).alloc (Nat.le_refl _) _).drew
  have hb1:Below w.heap.size w ((w.alloc (.cells #[.int .i64 s.id, .int .i64 s.lv, .int .i64 s.a, .int .i64 s.b, .int .i64 s.c, .int .i64 s.d] 48)).drew.alloc (.cells #[.int .i64 0, .int .i64 0, .int .i64 0, .int .i64 0, .int .i64 0, .int .i64 0] 48)):=hb0.alloc (by simp) _
  have hb2:Below w.heap.size w ((w.alloc (.cells #[.int .i64 s.id, .int .i64 s.lv, .int .i64 s.a, .int .i64 s.b, .int .i64 s.c, .int .i64 s.d] 48)).drew.alloc (.cells #[.int .i64 v.id, .int .i64 v.lv, .int .i64 v.a, .int .i64 v.b, .int .i64 v.c, .int .i64 v.d] 48)):=hb0.alloc (by simp) _
  have HS:(fun w'=>w'.heap[m]? = om∧w'.cell? ⟨f,1,none⟩=some (.map (some m))∧w'.cell? ⟨w.heap.size,0,none⟩=some (.int .i64 s.id)) (w.alloc (.cells #[.int .i64 s.id, .int .i64 s.lv, .int .i64 s.a, .int .i64 s.b, .int .i64 s.c, .int .i64 s.d] 48)).drew:=⟨(hb0.block _ hm).trans hom,by go_simp,by go_simp⟩
  have HS1:(fun w'=>w'.heap[m]? = om∧w'.cell? ⟨f,1,none⟩=some (.map (some m))∧w'.cell? ⟨w.heap.size,0,none⟩=some (.int .i64 s.id)) ((w.alloc (.cells #[.int .i64 s.id, .int .i64 s.lv, .int .i64 s.a, .int .i64 s.b, .int .i64 s.c, .int .i64 s.d] 48)).drew.alloc (.cells #[.int .i64 0, .int .i64 0, .int .i64 0, .int .i64 0, .int .i64 0, .int .i64 0] 48)):=⟨(hb1.block _ hm).trans hom,by go_simp,by go_simp⟩
  have HS2:(fun w'=>w'.heap[m]? = om∧w'.cell? ⟨f,1,none⟩=some (.map (some m))∧w'.cell? ⟨w.heap.size,0,none⟩=some (.int .i64 s.id)) ((w.alloc (.cells #[.int .i64 s.id, .int .i64 s.lv, .int .i64 s.a, .int .i64 s.b, .int .i64 s.c, .int .i64 s.d] 48)).drew.alloc (.cells #[.int .i64 v.id, .int .i64 v.lv, .int .i64 v.a, .int .i64 v.b, .int .i64 v.c, .int .i64 v.d] 48)):=⟨(hb2.block _ hm).trans hom,by go_simp,by go_simp⟩
  refine wp_region_early (fun w'=>w'.heap[m]? = om∧w'.cell? ⟨f,1,none⟩=some (.map (some m))∧w'.cell? ⟨w.heap.size,0,none⟩=some (.int .i64 s.id)) (fun _=>true) (by kernel_rfl) HS (fun HS=>?_)
  (refine q9t (i:=0) rfl HS ?_;(try simp only [Act.put,q9x,q9y,q9z]))
  (refine q9t (i:=1) rfl HS ?_;(try simp only [Act.put,q9x,q9y,q9z]))
  (refine q9t (i:=2) rfl HS ?_;(try simp only [Act.put,q9x,q9y,q9z]))
  (refine q9t (i:=3) rfl HS ?_;(try simp only [Act.put,q9x,q9y,q9z]))
  (refine q9t (i:=4) rfl HS ?_;(try simp only [Act.put,q9x,q9y,q9z]))
  (refine q9t (i:=5) rfl HS ?_;(try simp only [Act.put,q9x,q9y,q9z]))
  (refine q9t (i:=6) rfl HS ?_;(try simp only [Act.put,q9x,q9y,q9z]))
  (refine q9t (i:=7) rfl HS ?_;(try simp only [Act.put,q9x,q9y,q9z]))
  (refine q9t (i:=8) rfl HS ?_;(try simp only [Act.put,q9x,q9y,q9z]))
  (refine q9t (i:=9) rfl HS ?_;(try simp only [Act.put,q9x,q9y,q9z]))
  refine wpAnyE_one (i:=10) rfl (by kernel_rfl) ?_
  go_wp2_with fail
  refine ⟨HS1.1,?_⟩
  refine wpAnyE_one (i:=11) rfl (by kernel_rfl) ?_
  go_wp2_with fail
  first|refine ⟨fun _=>HS2,?_⟩|refine ⟨HS2.1,?_⟩
  refine wpAnyE_one (i:=12) rfl (by kernel_rfl) ?_
  go_wp2_with fail
  first|refine ⟨fun _=>HS2,?_⟩|refine ⟨HS2.1,?_⟩
  refine ⟨by kernel_rfl,?_⟩
  have HB:=Lib.hid hb2
  clear hom hlk HS HS1 HS2 hb0 hb1 hb2
  go_wp2_with fail
  have hSe:(fun x=>if x=s.id then some v else S x)=S:=by
   funext x
   by_cases e:x=s.id
   ·rw [if_pos e,e,hS]
   ·rw [if_neg e]
  refine bodyPost_ret (results_none rfl _ _ _) rfl ⟨rfl,C,?_,Chg.of HB.out,fun j hj => .inl hj⟩
  rw [hSe]
  have h9:=H.out.keep HB.out
  obtain ⟨D,h1,h2⟩:=h9.mp
  exact ⟨h9.c0,h9.c1,h9.q,⟨D,h1.mono (Nat.le_succ n),h2⟩,h9.ord,h9.far⟩
 | none=>
  rw [hS] at hlk
  simp only [Option.map_none,Option.getD_none,Option.isSome_none] at hlk
  go_enter Tryz.func41,Tryz.ntmps41
  go_wp2_with fail
  have hb0:Below w.heap.size w (w.alloc (.cells #[.int .i64 s.id, .int .i64 s.lv, .int .i64 s.a, .int .i64 s.b, .int .i64 s.c, .int .i64 s.d] 48)).drew:=((Below.refl w.heap.size w).alloc (Nat.le_refl _) _).drew
  have hb1:Below w.heap.size w ((w.alloc (.cells #[.int .i64 s.id, .int .i64 s.lv, .int .i64 s.a, .int .i64 s.b, .int .i64 s.c, .int .i64 s.d] 48)).drew.alloc (.cells #[.int .i64 0, .int .i64 0, .int .i64 0, .int .i64 0, .int .i64 0, .int .i64 0] 48)):=hb0.alloc (by simp) _
  have hb2:Below w.heap.size w ((w.alloc (.cells #[.int .i64 s.id, .int .i64 s.lv, .int .i64 s.a, .int .i64 s.b, .int .i64 s.c, .int .i64 s.d] 48)).drew.alloc (.cells #[.int .i64 0, .int .i64 0, .int .i64 0, .int .i64 0, .int .i64 0, .int .i64 0] 48)):=hb0.alloc (by simp) _
  have HS:(fun w'=>w'.heap[m]? = om∧w'.cell? ⟨f,1,none⟩=some (.map (some m))∧w'.cell? ⟨w.heap.size,0,none⟩=some (.int .i64 s.id)) (w.alloc (.cells #[.int .i64 s.id, .int .i64 s.lv, .int .i64 s.a, .int .i64 s.b, .int .i64 s.c, .int .i64 s.d] 48)).drew:=⟨(hb0.block _ hm).trans hom,by go_simp,by go_simp⟩
  have HS1:(fun w'=>w'.heap[m]? = om∧w'.cell? ⟨f,1,none⟩=some (.map (some m))∧w'.cell? ⟨w.heap.size,0,none⟩=some (.int .i64 s.id)) ((w.alloc (.cells #[.int .i64 s.id, .int .i64 s.lv, .int .i64 s.a, .int .i64 s.b, .int .i64 s.c, .int .i64 s.d] 48)).drew.alloc (.cells #[.int .i64 0, .int .i64 0, .int .i64 0, .int .i64 0, .int .i64 0, .int .i64 0] 48)):=⟨(hb1.block _ hm).trans hom,by go_simp,by go_simp⟩
  have HS2:(fun w'=>w'.heap[m]? = om∧w'.cell? ⟨f,1,none⟩=some (.map (some m))∧w'.cell? ⟨w.heap.size,0,none⟩=some (.int .i64 s.id)) ((w.alloc (.cells #[.int .i64 s.id, .int .i64 s.lv, .int .i64 s.a, .int .i64 s.b, .int .i64 s.c, .int .i64 s.d] 48)).drew.alloc (.cells #[.int .i64 0, .int .i64 0, .int .i64 0, .int .i64 0, .int .i64 0, .int .i64 0] 48)):=⟨(hb2.block _ hm).trans hom,by go_simp,by go_simp⟩
  refine wp_region_early (fun w'=>w'.heap[m]? = om∧w'.cell? ⟨f,1,none⟩=some (.map (some m))∧w'.cell? ⟨w.heap.size,0,none⟩=some (.int .i64 s.id)) (fun _=>true) (by kernel_rfl) HS (fun HS=>?_)
  (refine q9t (i:=0) rfl HS ?_;(try simp only [Act.put,q9x,q9y,q9z]))
  (refine q9t (i:=1) rfl HS ?_;(try simp only [Act.put,q9x,q9y,q9z]))
  (refine q9t (i:=2) rfl HS ?_;(try simp only [Act.put,q9x,q9y,q9z]))
  (refine q9t (i:=3) rfl HS ?_;(try simp only [Act.put,q9x,q9y,q9z]))
  (refine q9t (i:=4) rfl HS ?_;(try simp only [Act.put,q9x,q9y,q9z]))
  (refine q9t (i:=5) rfl HS ?_;(try simp only [Act.put,q9x,q9y,q9z]))
  (refine q9t (i:=6) rfl HS ?_;(try simp only [Act.put,q9x,q9y,q9z]))
  (refine q9t (i:=7) rfl HS ?_;(try simp only [Act.put,q9x,q9y,q9z]))
  (refine q9t (i:=8) rfl HS ?_;(try simp only [Act.put,q9x,q9y,q9z]))
  (refine q9t (i:=9) rfl HS ?_;(try simp only [Act.put,q9x,q9y,q9z]))
  refine wpAnyE_one (i:=10) rfl (by kernel_rfl) ?_
  go_wp2_with fail
  refine ⟨HS1.1,?_⟩
  refine wpAnyE_one (i:=11) rfl (by kernel_rfl) ?_
  go_wp2_with fail
  first|refine ⟨fun _=>HS2,?_⟩|refine ⟨HS2.1,?_⟩
  refine wpAnyE_one (i:=12) rfl (by kernel_rfl) ?_
  go_wp2_with fail
  first|refine ⟨fun _=>HS2,?_⟩|refine ⟨HS2.1,?_⟩
  refine ⟨by kernel_rfl,?_⟩
  have HO:=Lib.hid hom
  clear hom hlk HS HS1 HS2 hb0 hb1 hb2
  go_wp2_with fail
  (refine wp_region_later_tail 7 (w.heap.size+2) (by kernel_rfl) (by kernel_rfl) (by go_size) ?_;simp only [List.take_succ_cons,List.take_zero,List.drop_succ_cons,List.drop_zero];(repeat (go_big_quiet_step (fail)));refine wpQuiet_nil ?_;intro Xq hlXq hmXq)
  have hbq:Below w.heap.size w Xq.w:=q9l
  obtain ⟨w9,hput,hM9,hg9⟩:=(H.out.mp.same (hbq.block _ hm)).put (by omega) (mt:=156) Tryz.underlying156 hid (.agg #[.int .i64 s.id, .int .i64 s.lv, .int .i64 s.a, .int .i64 s.b, .int .i64 s.c, .int .i64 s.d])
  have hc9:Chg (fun j=>j=m) w w9:=(Chg.of (X:=fun j=>j=m) hbq).trans (Chg.ofGrown (X:=fun j=>j=m) hg9 (fun k hk=>by injection hk with hk;exact hk.symm)) (fun k hk => .inl hk)
  have hs9:=hg9.size
  have hsq:w.heap.size+2≤Xq.w.heap.size:=hlXq
  have e0:w9.cell? ⟨f,0,none⟩=some (.pointer (some ⟨fq,0,none⟩)):=(hc9.cell (p:=⟨f,0,none⟩) hf (by show ¬ f=m;omega)).trans c0
  have b0:w9.cell? ⟨w.heap.size,0,none⟩=some (.int .i64 s.id):=(hg9.cell_far ⟨w.heap.size,0,none⟩ (by show w.heap.size < _;omega) (fun e=>by injection e with e;have e':w.heap.size=m:=e;omega)).trans (by go_simp)
  have hSe:(fun x=>if x=s.id then some (.agg #[.int .i64 s.id, .int .i64 s.lv, .int .i64 s.a, .int .i64 s.b, .int .i64 s.c, .int .i64 s.d]) else (S x).map snV)=fun x=>(if x=s.id then some (((none:Option Sn)).getD s) else S x).map snV:=by
   funext x
   by_cases e:x=s.id
   ·rw [if_pos e,if_pos e];rfl
   ·rw [if_neg e,if_neg e]
  rw [hSe] at hM9
  have HQ:=Lib.hid (show QH w9 fq C M∧M1 w9 m (n+1) (fun x=>(if x=s.id then some (((none:Option Sn)).getD s) else S x).map snV)∧Chg (fun j=>j=m) w w9∧w9.cell? ⟨f,1,none⟩=some (.map (some m)) from ⟨H.out.q.chg hc9 (by show ¬ fq=m;omega) (fun k hk e=>(H.out.far k hk).1 e),hM9,hc9,(hc9.cell (p:=⟨f,1,none⟩) hf (by show ¬ f=m;omega)).trans c1⟩)
  clear hM9 hg9 hc9 hSe
  go_wp2_with fail
  (refine wp_region_later_tail 8 (w9.heap.size) (by kernel_rfl) (by kernel_rfl) (by go_size) ?_;simp only [List.take_succ_cons,List.take_zero,List.drop_succ_cons,List.drop_zero];(repeat (go_big_quiet_step (fail)));refine wpQuiet_nil ?_;intro Xr hlXr hmXr)
  have hbr:Below w9.heap.size w9 Xr.w:=q9l
  go_wp2_with fail
  go_at_call 86
  refine (qpush_any fq C M ⟨key,0,s.id⟩ _ (HQ.out.1.keep hbr) hM).mono ?_
  rintro e w2 ⟨rfl,C',hq,hc,hC⟩
  have hsr:=hbr.size
  have hX:∀ j,(j=fq∨gP C j)→j≠m∧j≠f:=fun j hj=>hj.elim (fun e=>by omega) (fun e=>H.out.far j e)
  have hcr:Chg (fun j=>j=fq∨gP C j) w9 w2:=(Chg.of (X:=fun j=>j=fq∨gP C j) hbr).trans hc (fun k hk => .inl hk)
  have HE:=Lib.hid (show Fg w2 f fq m (n+1) (fun x=>if x=s.id then some (((none:Option Sn)).getD s) else S x) C' (if ((none:Option Sn)).isSome then M else ⟨key,0,s.id⟩ :: M)∧Chg (fun j=>j=m∨j=fq∨gP C j) w w2∧∀ j,gP C' j→gP C j∨w.heap.size≤j from ⟨⟨(hcr.cell (p:=⟨f,0,none⟩) (by show f < _;omega) (fun e=>(hX f e).2 rfl)).trans e0,(hcr.cell (p:=⟨f,1,none⟩) (by show f < _;omega) (fun e=>(hX f e).2 rfl)).trans HQ.out.2.2.2,hq,HQ.out.2.1.same (hcr.block m (by omega) (fun e=>(hX m e).1 rfl)),ho,fun k hk=>(hC k hk).elim (fun h9=>H.out.far k h9) (fun h9=>by omega)⟩,(HQ.out.2.2.1.mono (X':=fun j=>j=m∨j=fq∨gP C j) (fun k hk => .inl (.inl hk))).trans hcr (fun k hk => .inl (.inr hk)),fun j hj=>(hC j hj).elim .inl (fun e => .inr (by omega))⟩)
  clear hq hc hC hX hcr
  go_wp2_with fail
  refine bodyPost_end (v := .tuple #[]) (by first|rfl|kernel_rfl) rfl ⟨rfl,C',HE.out⟩
def snE (S:Int→Option Sn) (e:En):Sn:=(S e.item).getD sn0
set_option maxHeartbeats 16000000 in
theorem ffirst_any (f fq m n mx:Nat) (S:Int→Option Sn) (C:Option Addr) (M:List En) (w:World) (h:Fg w f fq m n S C M) (hM:M.length≤mx) (hmx:mx≤100000) (hS:∀ e ∈ M,(S e.item).isSome=true∧wf64 e.item):
  Calls Tryz.prog 42 #[.pointer (some ⟨f,0,none⟩), .int .i64 mx] w fun e w'=>∃ A ca L,e = .returned (.slice A (L:List En).length ca)∧w'.ownsRow w.heap.size 48 6 (.slice A L.length ca) L.length (snF (L.map (snE S)))∧L.Perm M∧L.Pairwise leE∧Chg (fun j=>j=fq∨gP C j) w w':=by
 obtain ⟨i0,hi,hz0,hz1,hz2⟩:=info_parts (show (Tryz.prog.info? 48).map (fun i=>(i.zero,i.size,i.bytes))=some (some (.agg #[.int .i64 0, .int .i64 0, .int .i64 0, .int .i64 0, .int .i64 0, .int .i64 0]),6,48) by kernel_rfl)
 have PD:=Lib.hid (qdrain_any fq mx C M w h.q hM hmx)
 have H:=Lib.hid h
 have c0:=h.c0
 have c1:=h.c1
 have hf:=h.lt
 have hm:=h.mp.lt
 have ho:=h.ord
 have HS:=Lib.hid hS
 clear h hS
 go_enter Tryz.func42,Tryz.ntmps42
 go_wp2_with fail
 refine PD.out.mono ?_
 rintro e w1 ⟨A1,ca1,L,rfl,hown1,hperm,hpw,hc1⟩
 have hs1:=hc1.size
 have hX:∀ j,(j=fq∨gP C j)→j≠m∧j≠f:=fun j hj=>hj.elim (fun e=>by omega) (fun e=>H.out.far j e)
 have f1:w1.cell? ⟨f,1,none⟩=some (.map (some m)):=(hc1.cell (p:=⟨f,1,none⟩) hf (fun e=>(hX f e).2 rfl)).trans c1
 have hm1:M1 w1 m n (fun x=>(S x).map snV):=H.out.mp.chg hc1 (fun e=>(hX m e).1 rfl)
 have hlk:=fun (W:World) (hW:W.heap[m]? = w1.heap[m]?) (k:Int) (hk:wf64 k)=>(hm1.same hW).look (mt:=156) Tryz.underlying156 (zero_seen W) hk
 obtain ⟨om,hom⟩:∃ o,w1.heap[m]? = o:=⟨_,rfl⟩
 rw [hom] at hlk
 obtain ⟨k,hk⟩:∃ k,L.length=k:=⟨_,rfl⟩
 rw [hk] at hown1 ⊢
 have hkn:k≤100000:=by rw [← hk,hperm.length_eq];omega
 have HC:=Lib.hid (And.intro hc1 (And.intro hown1 (And.intro hperm (And.intro hpw (And.intro hlk hk)))))
 have hml:m < w1.heap.size:=by omega
 have hfl:f < w1.heap.size:=by omega
 clear hown1 hc1 hX hm1 hperm hpw hlk hk
 go_wp2_with fail
 go_loopw [5,15] (fun o i wr=>∃ (j:Nat) (A:Option Addr) (ca:Nat),j≤k∧o = .slice A j ca∧i = .int .i64 j∧Below w1.heap.size w1 wr∧Hid (wr.ownsRow w1.heap.size 48 6 (.slice A j ca) j (snF ((L.take j).map (snE S))))) (fun _ i _=>k - (intOf i).toNat)
 case atStart=>exact ⟨0,none,0,Nat.zero_le _,rfl,rfl,Below.refl _ _,World.ownsRow_nil _ _ _ _⟩
 case round=>
  obtain ⟨j,A,ca,hj,rfl,rfl,hbel,hown⟩:=hrel
  have hbl:=hbel.size
  obtain ⟨X,rfl⟩:∃ X:Later w1.heap.size w1,wr=X.w:=⟨⟨wr,hbel⟩,rfl⟩
  by_cases hlt:j < k
  ·have hjL:j < L.length:=by rw [HC.out.2.2.2.2.2];exact hlt
   obtain ⟨g1,cap1,hv1,hlo1,hgl1⟩:=HC.out.2.1.form (by omega)
   have hA1:A1=some ⟨g1,0,none⟩:=by injection hv1
   subst hA1
   have hce:∀ t,t < 3→∀ v,(enC (atE L j))[t]? = some v→X.w.cell? ⟨g1,j*3+t,none⟩=some v:=fun t ht v hv=>by
    have:=HC.out.2.1.cells (g:=g1) rfl (j*3+t) v (by rw [enV_get L j hjL t ht];exact hv)
    rw [Addr.add_lit,Nat.zero_add] at this
    exact (hbel.cell (p:=⟨g1,j*3+t,none⟩) hgl1).trans this
   have e0:=hce 0 (by decide) _ rfl
   have e1:=hce 1 (by decide) _ rfl
   have e2:=hce 2 (by decide) _ rfl
   have hmem:atE L j ∈ L:=by rw [atE_lt hjL];exact List.getElem_mem _
   have hSj:=HS.out _ (HC.out.2.2.1.mem_iff.1 hmem)
   have hsn:(L.take (j+1)).map (snE S)=(L.take j).map (snE S) ++ [snE S (atE L j)]:=by
    rw [List.take_succ_eq_append_getElem hjL,List.map_append,atE_lt hjL]
    rfl
   obtain ⟨e,he⟩:∃ e,atE L j=e:=⟨_,rfl⟩
   rw [he] at e0 e1 e2 hSj hsn
   simp only [Nat.add_zero] at e0
   have hlk2:=fun (W:World) (hW:W.heap[m]? = om)=>HC.out.2.2.2.2.1 W hW e.item hSj.2
   obtain ⟨z,hz⟩:∃ z,snE S e=z:=⟨_,rfl⟩
   have hzS:(S e.item).map snV=some (.agg #[.int .i64 z.id, .int .i64 z.lv, .int .i64 z.a, .int .i64 z.b, .int .i64 z.c, .int .i64 z.d]):=by
    rw [← hz]
    unfold snE
    cases hS:S e.item with
    | none=>rw [hS] at hSj;cases hSj.1
    | some v=>rfl
   rw [hzS] at hlk2
   simp only [Option.getD_some] at hlk2
   rw [hz] at hsn
   have HSN:=Lib.hid (And.intro hsn hbel)
   have hgx:g1 < w1.heap.size:=hgl1
   clear hv1 hce hmem hSj hsn he hz hzS hbel
   go_wp2_with fail
   have hbE:Below X.w.heap.size X.w (X.w.alloc (.cells #[.int .u64 e.key, .int .u64 e.tie, .int .i64 e.item] 165)).drew:=((Below.refl X.w.heap.size X.w).alloc (Nat.le_refl _) _).drew
   have hmX:X.w.heap[m]? = om:=(HSN.out.2.block m hml).trans hom
   have hS0:(fun w'=>w'.heap[m]? = om∧w'.cell? ⟨f,1,none⟩=some (.map (some m))∧w'.cell? ⟨X.w.heap.size,2,none⟩=some (.int .i64 e.item)) (X.w.alloc (.cells #[.int .u64 e.key, .int .u64 e.tie, .int .i64 e.item] 165)).drew:=⟨(hbE.block _ (by omega)).trans hmX,by go_simp,by go_simp⟩
   refine wp_region_early (fun w'=>w'.heap[m]? = om∧w'.cell? ⟨f,1,none⟩=some (.map (some m))∧w'.cell? ⟨X.w.heap.size,2,none⟩=some (.int .i64 e.item)) (fun j=>decide (j < 10)) (by kernel_rfl) hS0 (fun HS=>?_)
   (refine q9t (i:=0) rfl HS ?_;(try simp only [Act.put,q9x,q9y,q9z]))
   (refine q9t (i:=1) rfl HS ?_;(try simp only [Act.put,q9x,q9y,q9z]))
   (refine q9t (i:=2) rfl HS ?_;(try simp only [Act.put,q9x,q9y,q9z]))
   (refine q9t (i:=3) rfl HS ?_;(try simp only [Act.put,q9x,q9y,q9z]))
   (refine q9t (i:=4) rfl HS ?_;(try simp only [Act.put,q9x,q9y,q9z]))
   (refine q9t (i:=5) rfl HS ?_;(try simp only [Act.put,q9x,q9y,q9z]))
   (refine q9t (i:=6) rfl HS ?_;(try simp only [Act.put,q9x,q9y,q9z]))
   (refine q9t (i:=7) rfl HS ?_;(try simp only [Act.put,q9x,q9y,q9z]))
   refine wpAnyE_one (i:=8) rfl (by kernel_rfl) ?_
   go_wp2_with fail
   have hbF:Below X.w.heap.size X.w ((X.w.alloc (.cells #[.int .u64 e.key, .int .u64 e.tie, .int .i64 e.item] 165)).drew.alloc (.cells #[.int .i64 z.id, .int .i64 z.lv, .int .i64 z.a, .int .i64 z.b, .int .i64 z.c, .int .i64 z.d] 48)):=hbE.alloc (by simp) _
   have hS8:(fun w'=>w'.heap[m]? = om∧w'.cell? ⟨f,1,none⟩=some (.map (some m))∧w'.cell? ⟨X.w.heap.size,2,none⟩=some (.int .i64 e.item)) ((X.w.alloc (.cells #[.int .u64 e.key, .int .u64 e.tie, .int .i64 e.item] 165)).drew.alloc (.cells #[.int .i64 z.id, .int .i64 z.lv, .int .i64 z.a, .int .i64 z.b, .int .i64 z.c, .int .i64 z.d] 48)):=⟨(hbF.block _ (by omega)).trans hmX,by go_simp,by go_simp⟩
   first|refine ⟨fun _=>hS8,?_⟩|refine ⟨hS8.1,?_⟩|skip
   refine wpAnyE_one (i:=9) rfl (by kernel_rfl) ?_
   refine wpList_append_own_at _ rfl _ _ 56 rfl w1.heap.size 48 i0 (.agg #[.int .i64 0, .int .i64 0, .int .i64 0, .int .i64 0, .int .i64 0, .int .i64 0]) 6 48 Tryz.underlying56 hi hz0 hz1 hz2 rfl (by decide) (.slice A j ca) j _ (by rfl) (own_keep hown.out hbF) ⟨X.w.heap.size+1,0,none⟩ 1 1 [.int .i64 z.id, .int .i64 z.lv, .int .i64 z.a, .int .i64 z.b, .int .i64 z.c, .int .i64 z.d] (by rfl) (by rfl) (by
    have h9:=cells_six_new (X.w.alloc (.cells #[.int .u64 e.key, .int .u64 e.tie, .int .i64 e.item] 165)).drew (.int .i64 z.id) (.int .i64 z.lv) (.int .i64 z.a) (.int .i64 z.b) (.int .i64 z.c) (.int .i64 z.d) 48
    have e9:(X.w.alloc (.cells #[.int .u64 e.key, .int .u64 e.tie, .int .i64 e.item] 165)).drew.heap.size=X.w.heap.size+1:=by simp
    rw [e9] at h9
    exact h9) (by intro u hu;simp at hu;rcases hu with rfl|rfl|rfl|rfl|rfl|rfl <;> rfl) (by unfold maxLen;omega) (by omega) (by simp;omega) ?_
   intro v3 w9 hown3 hgrow3 _ hat3
   obtain ⟨A3,k3,rfl⟩:=own_formN hown3
   have hlt9:=hown.out.lt
   have hc9:Chg (gP A) X.w w9:=(Chg.of (X:=gP A) hbF).trans (Chg.ofGrown (X:=gP A) hgrow3 (fun k hk=>by rw [gOf_own] at hk;exact hk)) (fun k hk => .inl hk)
   have hb9:Below w1.heap.size w1 w9:=HSN.out.2.trans (hc9.below (B:=w1.heap.size) (fun k hk=>(hlt9 k (by rw [gOf_own];exact hk)).1) hbl)
   have q9:w9.cell? ⟨X.w.heap.size,2,none⟩=((X.w.alloc (.cells #[.int .u64 e.key, .int .u64 e.tie, .int .i64 e.item] 165)).drew.alloc (.cells #[.int .i64 z.id, .int .i64 z.lv, .int .i64 z.a, .int .i64 z.b, .int .i64 z.c, .int .i64 z.d] 48)).cell? ⟨X.w.heap.size,2,none⟩:=hgrow3.cell_far ⟨X.w.heap.size,2,none⟩ (by simp;omega) (fun e=>by rw [gOf_own] at e;have h8:=hlt9 X.w.heap.size (by rw [gOf_own];exact e.symm);omega)
   have hS9:(fun w'=>w'.heap[m]? = om∧w'.cell? ⟨f,1,none⟩=some (.map (some m))∧w'.cell? ⟨X.w.heap.size,2,none⟩=some (.int .i64 e.item)) w9:=⟨(hb9.block _ hml).trans hom,(hb9.cell (p:=⟨f,1,none⟩) hfl).trans f1,q9.trans (by go_simp)⟩
   first|refine ⟨fun _=>hS9,?_⟩|skip
   have HE:=Lib.hid (show w9.ownsRow w1.heap.size 48 6 (.slice A3 (j+1) k3) (j+1) (snF ((L.take (j+1)).map (snE S)))∧Below w1.heap.size w1 w9 from ⟨by rw [HSN.out.1,snF_app];exact hown3,hb9⟩)
   clear hown3 hgrow3 q9 HS hS0 hS8 hS9 hat3 hb9 hbF hbE hlk2 hmX hc9 hlt9
   refine wpAnyE_rest (k:=10) rfl (by kernel_rfl) (fun j hj=>by simp;omega) ?_
   simp only [List.drop_succ_cons,List.drop_zero]
   go_wp2_with fail
   go_roundw
   case rel=>exact ⟨j+1,A3,k3,by omega,rfl,by go_num,HE.out.2,HE.out.1⟩
   case measure=>simp [intOf];omega
  ·obtain rfl:j=k:=by omega
   have HE:=Lib.hid (show X.w.ownsRow w.heap.size 48 6 (.slice A L.length ca) L.length (snF (L.map (snE S)))∧L.Perm M∧L.Pairwise leE∧Chg (fun j=>j=fq∨gP C j) w X.w from ⟨by
    have h9:=own_base hown.out hs1
    rw [← HC.out.2.2.2.2.2,List.take_length] at h9
    exact h9,HC.out.2.2.1,HC.out.2.2.2.1,HC.out.1.trans (Chg.of (X:=fun _=>False) hbel) (fun j hj=>hj.elim)⟩)
   have hk2:=HC.out.2.2.2.2.2
   clear hbel
   go_wp2_with fail
   go_ret
   exact ⟨A,ca,L,by rw [hk2];rfl,HE.out⟩
structure Bb (w:World) (pb mb fb f:Nat) (px py m:Int):Prop where
 p0:w.cell? ⟨pb,0,none⟩=some (.int .i64 px)
 p1:w.cell? ⟨pb,1,none⟩=some (.int .i64 py)
 m0:w.cell? ⟨mb,0,none⟩=some (.int .i64 m)
 f0:w.cell? ⟨fb,0,none⟩=some (.pointer (some ⟨f,0,none⟩))
theorem Bb.chg {X:Nat→Prop} {w w':World} {pb mb fb f:Nat} {px py m:Int} (h:Bb w pb mb fb f px py m) (hc:Chg X w w') (h1:¬ X pb) (h2:¬ X mb) (h3:¬ X fb):Bb w' pb mb fb f px py m:=
 ⟨(hc.cell (p:=⟨pb,0,none⟩) (cell_lt h.p0) h1).trans h.p0,(hc.cell (p:=⟨pb,1,none⟩) (cell_lt h.p1) h1).trans h.p1,(hc.cell (p:=⟨mb,0,none⟩) (cell_lt h.m0) h2).trans h.m0,(hc.cell (p:=⟨fb,0,none⟩) (cell_lt h.f0) h3).trans h.f0⟩
theorem Fd.chg {X:Nat→Prop} {w w':World} {f fq m n nq cq:Nat} {S:Int→Option Value} {C:Option Addr} {xs:List Value} (h:Fd w f fq m n S C nq cq xs) (hc:Chg X w w') (h1:¬ X f) (h2:¬ X fq) (h3:¬ X m) (h4:∀ k,gP C k→¬ X k):Fd w' f fq m n S C nq cq xs:=
 ⟨(hc.cell (p:=⟨f,0,none⟩) h.lt h1).trans h.c0,(hc.cell (p:=⟨f,1,none⟩) h.lt h1).trans h.c1,h.q.chg hc h2 h4,h.mp.chg hc h3,h.ord,h.far⟩
def NearPost (G:Nat→Prop) (lo qt bt kt:Nat) (L:List Rl) (f fq m:Nat) (id lv x0 y0 x1 y1 px py:Int) (w:World) (e:Ending) (w':World):Prop:=
 e = .returned (.tuple #[])∧∃ C' cq',Fd w' f fq m 1 (fun k=>if k=id then some (.agg #[.int .i64 id, .int .i64 lv, .int .i64 x0, .int .i64 y0, .int .i64 x1, .int .i64 y1]) else none) C' 1 cq' [.int .u64 (distI x0 y0 x1 y1 px py), .int .u64 0, .int .i64 id]∧Tb w' lo qt bt (kt+3) L (gU G C')∧Chg (fun j=>j=bt∨j=m∨j=fq) w w'∧∀ j,gP C' j→w.heap.size≤j
set_option maxHeartbeats 16000000 in
theorem near1_first (G:Nat→Prop) (lo qt bt kt:Nat) (L:List Rl) (Pc:Option Addr) (role tier id x y label z:Int) (g:Gr) (wb vb pb mb fb f fq m:Nat) (q s cc cd bd:Nat) (C D:Option Addr) (px py lv:Int) (w:World) (ht:Tb w lo qt bt kt L G) (hgw:∀ x,G x→x < w.heap.size) (hkt:kt+2 < 1000000) (hcnt:cntB L≤1048576) (hn1:L.length≤1000000) (hw:Wb w wb (some ⟨q,0,none⟩) Pc qt) (hv:Vb w vb role tier g) (hB:Bb w pb mb fb f px py 1)
  (hne:wb≠bt∧vb≠bt∧pb≠bt∧mb≠bt∧fb≠bt∧f≠bt)
  (hsee:seeB L role tier g x y label=true) (hzo:zoomT L role tier label x y=z) (hl9:seeL L role tier g x y label=lv) (hf:fitsB x y=true) (hpf:fitsB px py=true) (hp:Pt1 w s q C cc 1 (.slice D 1 cd)) (hD:w.ownsRow bd 32 4 (.slice D 1 cd) 1 [.int .i64 id, .int .i64 x, .int .i64 y, .int .i64 label]) (hm:M1 w s 1 (fun k=>if k=id then some (.agg #[.int .i64 id, .int .i64 x, .int .i64 y, .int .i64 label]) else none)) (hid:wf64 id) (hqb:q≠bt∧s≠bt∧(∀ k,gP C k→k≠bt)∧∀ k,gP D k→k≠bt)
  (hF:Fd w f fq m 0 (fun _=>none) none 0 0 []) (hG:G fq∧G m):
  Calls Tryz.prog 43 #[.int .i64 z, .int .i64 lv, .pointer (some ⟨wb,0,none⟩), .pointer (some ⟨vb,0,none⟩), .pointer (some ⟨pb,0,none⟩), .pointer (some ⟨mb,0,none⟩), .pointer (some ⟨fb,0,none⟩)] w (NearPost G lo qt bt kt L f fq m id lv (x / sd lv*sd lv) (y / sd lv*sd lv) (x / sd lv*sd lv+sd lv - 1) (y / sd lv*sd lv+sd lv - 1) px py w):=by
 have hbl:=ht.ltb
 have hlv:0≤lv∧lv≤16:=by
  have hzr:=zoomT_rng (L:=L) (r:=role) (t:=tier) (l:=label) (x:=x) (y:=y)
  have h9:rightG g=true:=by
   unfold seeB at hsee
   simp only [Bool.and_eq_true] at hsee
   have h8:=hsee.1.1
   unfold rightW at h8
   simp only [Bool.and_eq_true] at h8
   exact h8.2
  have:=rightG_iff.1 h9
  unfold seeL at hl9
  omega
 have PN:=Lib.hid (fun (zb:Nat) (Y:World) (hY:Below w.heap.size w Y) (hz:Y.cell? ⟨zb,0,none⟩=some (.int .i64 z)) (hzb:zb≠bt)=>nearest_first G lo qt bt kt L (some ⟨q,0,none⟩) Pc role tier id x y label z g wb vb zb q s cc cd bd C D px py lv Y (ht.keep hY) (fun x e=>Nat.lt_of_lt_of_le (hgw x e) hY.size) (by omega) hcnt hn1 (hw.chg (X:=fun _=>False) (Chg.of hY) (fun e=>e)) (hv.chg (X:=fun _=>False) (Chg.of hY) (fun e=>e)) hz ⟨hne.1,hne.2.1,hzb⟩ (by rw [hsee,hzo];simp) hlv hf hpf (hp.keep hY) (own_keep hD hY) (hm.chg (X:=fun _=>False) (Chg.of hY) (fun e=>e)) hid hqb)
 have psee:=fun (Y:World) (hT:Tb Y lo qt bt (kt+2) L G) (hY:w.heap.size≤Y.heap.size)=>see_any G lo qt bt (kt+2) L (some ⟨q,0,none⟩) Pc role tier id x y label g Y hT (fun x e=>Nat.lt_of_lt_of_le (hgw x e) hY) (by omega) hcnt hn1
 unfold TabPost seenV at psee
 rw [hsee,hl9] at psee
 simp only [sel,if_true] at psee
 obtain ⟨x0,hx0⟩:∃ c,x / sd lv*sd lv=c:=⟨_,rfl⟩
 obtain ⟨y0,hy0⟩:∃ c,y / sd lv*sd lv=c:=⟨_,rfl⟩
 rw [hx0,hy0] at psee ⊢
 obtain ⟨x1,hx1⟩:∃ c,x0+sd lv - 1=c:=⟨_,rfl⟩
 obtain ⟨y1,hy1⟩:∃ c,y0+sd lv - 1=c:=⟨_,rfl⟩
 rw [hx1,hy1] at psee ⊢
 have PSee:=Lib.hid psee
 have PD:=Lib.hid (fun (Y:World)=>dist_any x0 y0 x1 y1 px py Y)
 have hfl:=hF.lt
 have H:=Lib.hid (show (Wb w wb (some ⟨q,0,none⟩) Pc qt∧Vb w vb role tier g∧Bb w pb mb fb f px py 1)∧(wb≠bt∧vb≠bt∧pb≠bt∧mb≠bt∧fb≠bt∧f≠bt)∧(Fd w f fq m 0 (fun _=>none) none 0 0 []∧(G fq∧G m))∧(∀ x,G x→qt < x∧bt < x) from ⟨⟨hw,hv,hB⟩,hne,⟨hF,hG⟩,ht.gq⟩)
 have hwl:=hw.lt
 have hvl:=hv.lt
 obtain ⟨p0,p1,m0,f0⟩:=hB
 have hpl:pb < w.heap.size:=cell_lt p0
 have hml:mb < w.heap.size:=cell_lt m0
 have hfbl:fb < w.heap.size:=cell_lt f0
 have w0:=hw.c0
 have hfq:fq≠bt∧m≠bt:=by have h1:=ht.gq fq hG.1;have h2:=ht.gq m hG.2;omega
 have hord:=hF.ord
 generalize hNP:NearPost G lo qt bt kt L f fq m id lv x0 y0 x1 y1 px py w=Post
 clear psee ht hgw hkt hcnt hn1 hw hv hne hsee hzo hl9 hf hpf hp hD hm hqb hF hG hlv hx0 hy0 hx1 hy1
 go_enter Tryz.func43,Tryz.ntmps43
 go_wp2_with fail
 have hbw:Below w.heap.size w (w.alloc (.cells #[.int .i64 z] 3)):=(Below.refl _ _).alloc (Nat.le_refl _) _
 refine (PN.out w.heap.size _ hbw (by go_simp) (by omega)).mono ?_
 rintro e W ⟨A,ca,rfl,hown,hT,hc⟩
 have hcW:Chg (fun j=>j=bt) w W:=(Chg.of (X:=fun j=>j=bt) hbw).trans hc (fun j hj => .inl hj)
 obtain ⟨ga,capa,hva,hloa,hgal⟩:=hown.form (by omega)
 have hA:A=some ⟨ga,0,none⟩:=by injection hva
 subst hA
 have r0:=hown.cells (g:=ga) rfl 0 _ rfl
 have r1:=hown.cells (g:=ga) rfl 1 _ rfl
 have r2:=hown.cells (g:=ga) rfl 2 _ rfl
 have r3:=hown.cells (g:=ga) rfl 3 _ rfl
 rw [Addr.add_lit] at r0 r1 r2 r3
 simp only [Nat.zero_add] at r0 r1 r2 r3
 have hsW:=hcW.size
 have HW:=Lib.hid (And.intro hT hcW)
 obtain ⟨w0,w1,w2⟩:=H.out.1.1.chg hcW H.out.2.1.1
 obtain ⟨v0,v1,v2,v3,v4,v5,v6,v7,v8,v9⟩:=H.out.1.2.1.chg hcW H.out.2.1.2.1
 clear hown hT hc hcW hva hbw p0 p1 m0 f0
 go_wp2_with fail
 go_loopw [23] (fun i wr=>∃ n:Nat,n≤1∧i = .int .i64 n∧Hid ((n=0→wr=W)∧(n=1→Post (.returned (.tuple #[])) wr))) (fun i _=>1 - (intOf i).toNat)
 case atStart=>exact ⟨0,by decide,rfl,⟨fun _=>rfl,fun e=>by cases e⟩⟩
 case round=>
  obtain ⟨n,hn,rfl,hrel⟩:=hrel
  match n,hn with
  | 0,_=>
   obtain rfl:=hrel.out.1 rfl
   clear hrel hn
   go_wp2_with fail
   go_at_call 8
   have hbA:Below wr.heap.size wr (wr.alloc (.cells #[.int .i64 id, .int .i64 x, .int .i64 y, .int .i64 label] 32)):=(Below.refl _ _).alloc (Nat.le_refl _) _
   refine (PSee.out _ (HW.out.1.keep hbA) (Nat.le_trans hsW hbA.size)).mono ?_
   rintro e W2 ⟨rfl,hT2,hg2⟩
   have hc2:Chg (fun j=>j=bt) w W2:=(HW.out.2.trans (Chg.of (X:=fun j=>j=bt) hbA) (fun j hj => .inl hj)).trans (Chg.ofGrown (X:=fun j=>j=bt) hg2 (fun k hk=>by injection hk with hk;exact hk.symm)) (fun j hj => .inl hj)
   have hs2:=hc2.size
   obtain ⟨p0,p1,m0,f0⟩:=H.out.1.2.2.chg hc2 H.out.2.1.2.2.1 H.out.2.1.2.2.2.1 H.out.2.1.2.2.2.2.1
   have HT2:=Lib.hid (And.intro hT2 hc2)
   clear hT2 hg2 hc2 hbA
   go_wp2_with fail
   (refine wp_region_later_tail 6 (W2.heap.size+1) (by kernel_rfl) (by kernel_rfl) (by go_size) ?_;simp only [List.take_succ_cons,List.take_zero,List.drop_succ_cons,List.drop_zero];(repeat (go_big_quiet_step ((first|(go_at_call 46;exact Later.call _ (Nat.le_trans (by go_size) (Later.is _).size) (PD.out _))))));refine wpQuiet_nil ?_;intro Xq hlXq hmXq)
   have hbq:Below W2.heap.size W2 Xq.w:=q9l
   go_wp2_with fail
   go_at_call 41
   have hcq:Chg (fun j=>j=bt) w Xq.w:=HT2.out.2.trans (Chg.of (X:=fun j=>j=bt) hbq) (fun j hj => .inl hj)
   refine (fput_first f fq m 0 none (distI x0 y0 x1 y1 px py) id lv x0 y0 x1 y1 _ (H.out.2.2.1.1.chg hcq H.out.2.1.2.2.2.2.2 hfq.1 hfq.2 (fun k hk=>by cases hk)) hid).mono ?_
   rintro e W5 ⟨rfl,C',cq',hF',hc5,hC'⟩
   have hsq:=hbq.size
   have hc5':Chg (fun j=>j=m∨j=fq) Xq.w W5:=hc5.mono (fun k hk=>by rcases hk with e|e|e;exact .inl (.inl e);exact .inl (.inr e);cases e)
   have HE:=Lib.hid (show Post (.returned (.tuple #[])) W5 by
    rw [← hNP]
    exact ⟨rfl,C',cq',hF',(HT2.out.1.keep hbq).step (fun j _ hj hjs=>hc5'.block j hjs (fun e=>hj (e.elim (fun e=>e ▸ H.out.2.2.1.2.2) (fun e=>e ▸ H.out.2.2.1.2.1)))) hc5'.size (fun j hj=>hj.elim .inl (fun e=>(hC' j e).elim (fun e=>by cases e) .inr)),(hcq.mono (X':=fun j=>j=bt∨j=m∨j=fq) (fun k hk => .inl (.inl hk))).trans hc5' (fun k hk => .inl (.inr hk)),fun j hj=>(hC' j hj).elim (fun e=>by cases e) (fun e=>Nat.le_trans hcq.size e)⟩)
   clear hF' hc5 hC' hc5' hcq hbq
   go_wp2_with fail
   go_roundw
   case rel=>exact ⟨1,by decide,by go_num,⟨fun e=>(by cases e),fun _=>HE.out⟩⟩
   case measure=>show 1 - 1 < 1 - 0;decide
  | 1,_=>
   have HE:=Lib.hid (hrel.out.2 rfl)
   clear hrel
   go_wp2_with fail
   exact bodyPost_end (v := .tuple #[]) (by first|rfl|kernel_rfl) rfl HE.out
end Go.Proofs.YthlijfligikciaaGreat
