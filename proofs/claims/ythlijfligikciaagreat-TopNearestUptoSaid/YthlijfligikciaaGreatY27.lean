/- A part of one proof: HpC HpD PlC. No condition. -/
import Derived.Test.YthlijfligikciaaGreatY26
import Derived.Test.YthlijfligikciaaGreatY11
import Derived.Test.YthlijfligikciaaGreatY12
namespace Go.Proofs.YthlijfligikciaaGreat
open Go.RowKit Go.Maps
set_option linter.unusedSimpArgs false
set_option linter.unusedVariables false
set_option maxRecDepth 2000
def QH (w:World) (s:Nat) (C:Option Addr) (M:List En):Prop:=∃ n cc es,Qu w s C n cc (enV es)∧es.length=n∧HeapN es n∧es.Perm M
section
variable {X:Nat→Prop} {w w':World} {s:Nat} {C:Option Addr} {M M':List En}
theorem QH.chg (h:QH w s C M) (hc:Chg X w w') (h1:¬ X s) (h2:∀ k,gP C k→¬ X k):QH w' s C M:=by
 obtain ⟨n,cc,es,hq,r⟩:=h
 exact ⟨n,cc,es,hq.chg hc h1 h2,r⟩
theorem QH.keep (h:QH w s C M) (hb:Below w.heap.size w w'):QH w' s C M:=by
 obtain ⟨n,cc,es,hq,r⟩:=h
 exact ⟨n,cc,es,hq.keep hb,r⟩
theorem QH.perm (h:QH w s C M) (hp:M.Perm M'):QH w s C M':=by
 obtain ⟨n,cc,es,hq,hl,hh,hm⟩:=h
 exact ⟨n,cc,es,hq,hl,hh,hm.trans hp⟩
theorem QH.lt (h:QH w s C M):s < w.heap.size:=by
 obtain ⟨n,cc,es,hq,_⟩:=h
 exact hq.lt
theorem QH.far (h:QH w s C M):∀ k,gP C k→s < k∧k < w.heap.size:=by
 obtain ⟨n,cc,es,hq,_⟩:=h
 exact hq.rowlt
end
set_option maxHeartbeats 8000000 in
theorem hpush_any (s:Nat) (C:Option Addr) (M:List En) (e:En) (w:World) (h:QH w s C M) (hM:M.length≤500000):
  Calls Tryz.prog 119 #[.iface 221 (.pointer (some ⟨s,0,none⟩)), .iface 165 (.agg #[.int .u64 e.key, .int .u64 e.tie, .int .i64 e.item])] w fun e' w'=>e' = .returned (.tuple #[])∧∃ C',QH w' s C' (e :: M)∧Chg (fun j=>j=s∨gP C j) w w'∧∀ j,gP C' j→gP C j∨w.heap.size≤j:=by
 obtain ⟨n,cc,es,hq,hl,hh,hm⟩:=h
 have hn:n≤500000:=by rw [← hl,hm.length_eq];exact hM
 have PP:=Lib.hid (tpush_any s n cc C (enV es) e.key e.tie e.item w hq (by omega))
 have HH:=Lib.hid (And.intro hl (And.intro hh hm))
 clear hq hl hh hm hM
 go_enter Tryz.func119,Tryz.ntmps119
 go_wp2_with fail
 refine PP.out.mono ?_
 rintro e1 w1 ⟨rfl,C',cc',hq,hc,hC⟩
 have hq1:Qu w1 s C' (n+1) cc' (enV (es ++ [e])):=by rw [enV_app];exact hq
 have PL:=Lib.hid (tlen_any s (n+1) cc' C' _ w1 hq1)
 have PU:=Lib.hid (fun (Y:World) (hY:Below w1.heap.size w1 Y)=>hup_any s (n+1) cc' n C' (es ++ [e]) Y (hq1.keep hY) (by simp [HH.out.1]) (by omega) (by omega) (up_start HH.out.2.1 e HH.out.1))
 have HQ:=Lib.hid (And.intro hc hC)
 clear hq hq1 hc hC
 rw [show ((n+1:Nat):Int)=(n:Int)+1 by omega] at PL
 go_wp2_with fail
 refine PL.out.mono ?_
 rintro e2 w2 ⟨rfl,hb2⟩
 have HB:=Lib.hid hb2
 clear hb2
 go_wp2_with fail
 refine (PU.out _ HB.out).mono ?_
 rintro e3 w3 ⟨rfl,es',hq3,hp3,hh3,hc3⟩
 have hs1:=HQ.out.1.size
 have HE:=Lib.hid (show ∃ C',QH w3 s C' (e :: M)∧Chg (fun j=>j=s∨gP C j) w w3∧∀ j,gP C' j→gP C j∨w.heap.size≤j from ⟨C',⟨n+1,cc',es',hq3,by rw [hp3.length_eq];simp [HH.out.1],hh3,(hp3.trans (List.perm_append_singleton _ _)).trans (List.Perm.cons _ HH.out.2.2)⟩,(HQ.out.1.trans (Chg.of (X:=fun _=>False) HB.out) (fun k hk=>hk.elim)).trans hc3 (fun k hk=>(HQ.out.2 k hk).elim (fun e => .inl (.inr e)) .inr),HQ.out.2⟩)
 clear hq3 hp3 hh3 hc3
 go_wp2_with fail
 exact bodyPost_end (v := .tuple #[]) (by first|rfl|kernel_rfl) rfl ⟨rfl,HE.out⟩
set_option maxHeartbeats 8000000 in
theorem hpop_any (s:Nat) (C:Option Addr) (M:List En) (w:World) (h:QH w s C M) (hM:M.length≤500000) (hne:M≠[]):
  Calls Tryz.prog 122 #[.iface 221 (.pointer (some ⟨s,0,none⟩))] w fun e' w'=>∃ e M',e' = .returned (.iface 165 (.agg #[.int .u64 e.key, .int .u64 e.tie, .int .i64 e.item]))∧M.Perm (e :: M')∧(∀ x ∈ M',leE e x)∧QH w' s C M'∧Chg (fun j=>j=s∨gP C j) w w':=by
 obtain ⟨n',cc,es,hq,hl,hh,hm⟩:=h
 have hn:n'≤500000:=by rw [← hl,hm.length_eq];exact hM
 have hn0:n'≠0:=fun e=>hne (List.length_eq_zero_iff.1 (by rw [← hm.length_eq,hl,e]))
 obtain ⟨n,rfl⟩:∃ n,n'=n+1:=⟨n' - 1,by omega⟩
 have PL:=Lib.hid (tlen_any s (n+1) cc C _ w hq)
 have PS:=Lib.hid (fun (Y:World) (hY:Below w.heap.size w Y)=>tswap_any s (n+1) cc 0 n C es Y (hq.keep hY) hl (by omega) (by omega) (by omega))
 have HH:=Lib.hid (And.intro hl (And.intro hh hm))
 clear hq hl hh hm hM hn0 hne
 rw [show ((n+1:Nat):Int)=(n:Int)+1 by omega] at PL
 go_enter Tryz.func122,Tryz.ntmps122
 go_wp2_with fail
 refine PL.out.mono ?_
 rintro e1 w1 ⟨rfl,hb1⟩
 have HB1:=Lib.hid hb1
 clear hb1
 go_wp2_with fail
 refine (PS.out _ HB1.out).mono ?_
 rintro e2 w2 ⟨rfl,hq2,hc2⟩
 have PD:=Lib.hid (hdown_any s (n+1) n cc C (swapE es 0 n) w2 hq2 (by rw [swapE_len];exact HH.out.1) (by omega) (by omega) (dn_start HH.out.2.1 HH.out.1))
 have HC2:=Lib.hid hc2
 clear hq2 hc2
 go_wp2_with fail
 refine PD.out.mono ?_
 rintro e3 w3 ⟨⟨b3,rfl⟩,fs,hq3,hp3,hh3,hla3,hc3⟩
 have hfl:fs.length=n+1:=by rw [hp3.length_eq,swapE_len];exact HH.out.1
 have hat:atE fs n=atE es 0:=by
  rw [hla3 n (Nat.le_refl _),swapE_at (by rw [HH.out.1];omega) (by rw [HH.out.1];omega) (by rw [HH.out.1];omega),if_pos rfl]
 have PP:=Lib.hid (tpop_any s n cc C fs w3 hq3 hfl (by omega))
 rw [hat] at PP
 have hpp:=pop_perm HH.out.1 hp3 hat
 have hmin:∀ x ∈ fs.take n,leE (atE es 0) x:=fun x hx=>by
  have hx2:x ∈ es:=hpp.mem_iff.2 (List.mem_cons_of_mem _ hx)
  obtain ⟨i,hi,rfl⟩:=List.mem_iff_getElem.1 hx2
  rw [← atE_lt hi]
  exact heap_root HH.out.2.1 i (by rw [← HH.out.1];exact hi)
 have HE3:=Lib.hid (And.intro hfl (And.intro hh3 (And.intro hpp (And.intro hmin hc3))))
 obtain ⟨e,he⟩:∃ e,atE es 0=e:=⟨_,rfl⟩
 rw [he] at PP HE3
 clear hq3 hp3 hh3 hla3 hc3 hat hfl hpp hmin
 unfold enC at PP
 go_wp2_with fail
 refine PP.out.mono ?_
 rintro e4 w4 ⟨rfl,hq4,hc4⟩
 have HE:=Lib.hid (show M.Perm (e :: fs.take n)∧(∀ x ∈ fs.take n,leE e x)∧QH w4 s C (fs.take n)∧Chg (fun j=>j=s∨gP C j) w w4 from ⟨HH.out.2.2.symm.trans HE3.out.2.2.1,HE3.out.2.2.2.1,⟨n,cc,fs.take n,hq4,by rw [List.length_take,HE3.out.1];omega,heap_take HE3.out.2.1,List.Perm.refl _⟩,(((Chg.of (X:=fun j=>j=s∨gP C j) HB1.out).trans HC2.out (fun k hk => .inl (.inr hk))).trans HE3.out.2.2.2.2 (fun k hk => .inl (.inr hk))).trans hc4 (fun k hk => .inl (.inl hk))⟩)
 clear hq4 hc4
 go_wp2_with fail
 go_ret
 exact ⟨e,_,rfl,HE.out⟩
set_option maxHeartbeats 8000000 in
theorem qpush_any (s:Nat) (C:Option Addr) (M:List En) (e:En) (w:World) (h:QH w s C M) (hM:M.length≤500000):
  Calls Tryz.prog 86 #[.pointer (some ⟨s,0,none⟩), .agg #[.int .u64 e.key, .int .u64 e.tie, .int .i64 e.item]] w fun e' w'=>e' = .returned (.bool true)∧∃ C',QH w' s C' (e :: M)∧Chg (fun j=>j=s∨gP C j) w w'∧∀ j,gP C' j→gP C j∨w.heap.size≤j:=by
 have PH:=Lib.hid (fun (Y:World) (hY:Below w.heap.size w Y)=>hpush_any s C M e Y (h.keep hY) hM)
 clear h hM
 go_enter Tryz.func86,Tryz.ntmps86
 go_wp2_with fail
 (refine wp_region_later_tail 6 (w.heap.size+1) (by kernel_rfl) (by kernel_rfl) (by go_size) ?_;simp only [List.take_succ_cons,List.take_zero,List.drop_succ_cons,List.drop_zero];(repeat (go_big_quiet_step (fail)));refine wpQuiet_nil ?_;intro Xq hlXq hmXq)
 have hbq:Below w.heap.size w Xq.w:=q9l
 go_wp2_with fail
 go_at_call 119
 refine (PH.out _ hbq).mono ?_
 rintro e1 w1 ⟨rfl,C',hq,hc,hC⟩
 have HQ:=Lib.hid (show ∃ C',QH w1 s C' (e :: M)∧Chg (fun j=>j=s∨gP C j) w w1∧∀ j,gP C' j→gP C j∨w.heap.size≤j from ⟨C',hq,(Chg.of (X:=fun j=>j=s∨gP C j) hbq).trans hc (fun k hk => .inl hk),fun j hj=>(hC j hj).elim .inl (fun h9 => .inr (Nat.le_trans hbq.size h9))⟩)
 clear hq hc hC hbq
 go_wp2_with fail
 go_ret
 exact ⟨rfl,HQ.out⟩
set_option maxHeartbeats 8000000 in
theorem qpop_any (s:Nat) (C:Option Addr) (M:List En) (w:World) (h:QH w s C M) (hM:M.length≤500000) (hne:M≠[]):
  Calls Tryz.prog 89 #[.pointer (some ⟨s,0,none⟩)] w fun e' w'=>∃ e M',e' = .returned (.tuple #[.agg #[.int .u64 e.key, .int .u64 e.tie, .int .i64 e.item], .bool true])∧M.Perm (e :: M')∧(∀ x ∈ M',leE e x)∧QH w' s C M'∧Chg (fun j=>j=s∨gP C j) w w':=by
 have H:=Lib.hid h
 have hrow:=h.far
 have hs:=h.lt
 have has:=assert_entry
 obtain ⟨n,hn,c0⟩:∃ n:Nat,0 < n∧∃ cc,w.cell? ⟨s,0,none⟩=some (.slice C n cc):=by
  obtain ⟨n,cc,es,hq,hl,hh,hm⟩:=h
  refine ⟨n,?_,cc,hq.c0⟩
  rcases Nat.eq_zero_or_pos n with e|e
  ·exact absurd (List.length_eq_zero_iff.1 (by rw [← hm.length_eq,hl,e])) hne
  ·exact e
 obtain ⟨cc,c0⟩:=c0
 have hn0:((n:Int) == 0)=false:=by rw [beq_eq_false_iff_ne];omega
 clear h
 go_enter Tryz.func89,Tryz.ntmps89
 go_wp2_with fail
 have PH:=Lib.hid (hpop_any s C M (w.alloc (.cells #[.int .u64 0, .int .u64 0, .int .i64 0] 165)) (H.out.keep ((Below.refl _ _).alloc (Nat.le_refl _) _)) hM hne)
 refine PH.out.mono ?_
 rintro e' w4 ⟨e,M',rfl,hperm,hmin,hq4,hc4⟩
 have hn9:¬ (w.heap.size=s∨gP C w.heap.size):=fun e=>e.elim (fun e=>by omega) (fun e=>by have:=hrow _ e;omega)
 have hz4:=hc4.size
 simp only [World.size_alloc] at hz4
 have e0:w4.cell? ⟨w.heap.size,0,none⟩=some (.int .u64 0):=(hc4.cell (p:=⟨w.heap.size,0,none⟩) (by simp) hn9).trans (by go_simp)
 have e1:w4.cell? ⟨w.heap.size,1,none⟩=some (.int .u64 0):=(hc4.cell (p:=⟨w.heap.size,1,none⟩) (by simp) hn9).trans (by go_simp)
 have e2:w4.cell? ⟨w.heap.size,2,none⟩=some (.int .i64 0):=(hc4.cell (p:=⟨w.heap.size,2,none⟩) (by simp) hn9).trans (by go_simp)
 have f0:w4.frozen? ⟨w.heap.size,0,none⟩=false:=(hc4.frozen (p:=⟨w.heap.size,0,none⟩) (by simp) hn9).trans (by go_simp)
 have f1:w4.frozen? ⟨w.heap.size,1,none⟩=false:=(hc4.frozen (p:=⟨w.heap.size,1,none⟩) (by simp) hn9).trans (by go_simp)
 have f2:w4.frozen? ⟨w.heap.size,2,none⟩=false:=(hc4.frozen (p:=⟨w.heap.size,2,none⟩) (by simp) hn9).trans (by go_simp)
 have HQ:=Lib.hid (show QH w4 s C M'∧Chg (fun j=>j=s∨gP C j) w w4∧M.Perm (e :: M')∧(∀ x ∈ M',leE e x) from ⟨hq4,(Chg.of (X:=fun j=>j=s∨gP C j) ((Below.refl w.heap.size w).alloc (Nat.le_refl _) _)).trans hc4 (fun k hk => .inl hk),hperm,hmin⟩)
 clear hq4 hc4 hrow hperm hmin
 go_wp2_with fail
 have hcW:Chg (fun j=>j=w.heap.size) w4 ((((w4.alloc (.cells #[.int .u64 e.key, .int .u64 e.tie, .int .i64 e.item] 165)).setCell ⟨w.heap.size,0,none⟩ (.int .u64 e.key)).setCell ⟨w.heap.size,1,none⟩ (.int .u64 e.tie)).setCell ⟨w.heap.size,2,none⟩ (.int .i64 e.item)):=(((((Chg.refl (X:=fun j=>j=w.heap.size)).alloc _).set (p:=⟨w.heap.size,0,none⟩) (.inl rfl) _).set (p:=⟨w.heap.size,1,none⟩) (.inl rfl) _).set (p:=⟨w.heap.size,2,none⟩) (.inl rfl) _)
 have HE:=Lib.hid (show QH _ s C M'∧Chg (fun j=>j=s∨gP C j) w _ from ⟨HQ.out.1.chg hcW (fun e=>hn9 (.inl e.symm)) (fun k hk e=>hn9 (.inr (by have e':k=w.heap.size:=e;rw [← e'];exact hk))),HQ.out.2.1.trans hcW (fun k hk => .inr (by have e':k=w.heap.size:=hk;omega))⟩)
 clear hcW
 refine bodyPost_ret (by simp only [results,Tryz.results89];go_simp;all_goals (first|rfl|simp [sel])) rfl ⟨e,M',rfl,HQ.out.2.2.1,HQ.out.2.2.2,HE.out⟩
set_option maxHeartbeats 4000000 in
theorem qpop_nil (s:Nat) (C:Option Addr) (w:World) (h:QH w s C []):
  Calls Tryz.prog 89 #[.pointer (some ⟨s,0,none⟩)] w fun e' w'=>e' = .returned (.tuple #[.agg #[.int .u64 0, .int .u64 0, .int .i64 0], .bool false])∧Below w.heap.size w w':=by
 obtain ⟨cc,c0⟩:∃ cc,w.cell? ⟨s,0,none⟩=some (.slice C 0 cc):=by
  obtain ⟨n,cc,es,hq,hl,hh,hm⟩:=h
  have hn:n=0:=by rw [← hl,hm.length_eq];rfl
  subst hn
  exact ⟨cc,hq.c0⟩
 have hs:=h.lt
 clear h
 go_enter Tryz.func89,Tryz.ntmps89
 go_wp2_with fail
 refine bodyPost_ret (by simp only [results,Tryz.results89];go_simp;all_goals (first|rfl|simp [sel])) rfl ⟨rfl,q9o⟩
set_option maxHeartbeats 16000000 in
theorem qtaken_any (s m:Nat) (C:Option Addr) (M:List En) (w:World) (h:QH w s C M) (hM:M.length≤m) (hm:m≤100000):
  Calls Tryz.prog 120 #[.pointer (some ⟨s,0,none⟩), .int .i64 m, .func (.func 89) #[] #[]] w fun e w'=>∃ A ca L,e = .returned (.slice A (L:List En).length ca)∧w'.ownsRow w.heap.size 165 3 (.slice A L.length ca) L.length (enV L)∧L.Perm M∧L.Pairwise leE∧Chg (fun j=>j=s∨gP C j) w w':=by
 obtain ⟨i0,hi,hz0,hz1,hz2⟩:=info_parts (show (Tryz.prog.info? 165).map (fun i=>(i.zero,i.size,i.bytes))=some (some (.agg #[.int .u64 0, .int .u64 0, .int .i64 0]),3,24) by kernel_rfl)
 have H:=Lib.hid h
 have hfar:=Lib.hid h.far
 have hs:=h.lt
 clear h
 go_enter Tryz.func120,Tryz.ntmps120
 go_wp2_with fail
 go_loopw [7] (fun l wr=>∃ (n:Nat) (A:Option Addr) (ca:Nat),n≤M.length∧l = .slice A n ca∧Hid (∃ L M',L.length=n∧wr.ownsRow w.heap.size 165 3 (.slice A n ca) n (enV L)∧M.Perm (L ++ M')∧L.Pairwise leE∧(∀ x ∈ L,∀ y ∈ M',leE x y)∧QH wr s C M'∧Chg (fun j=>j=s∨gP C j) w wr)) (fun l _=>match l with | .slice _ n _=>M.length - n|_=>0)
 case atStart=>exact ⟨0,none,0,Nat.zero_le _,rfl,⟨[],M,rfl,World.ownsRow_nil _ _ _ _,List.Perm.refl _,List.Pairwise.nil,fun x hx=>(by cases hx),H.out,Chg.refl⟩⟩
 case round=>
  obtain ⟨n,A,ca,hn,rfl,hrel⟩:=hrel
  obtain ⟨L,M',hL,hown,hp,hpw,hle,hq,hc⟩:=hrel.out
  clear hrel
  have hlen:M.length=n+M'.length:=by rw [hp.length_eq,List.length_append,hL]
  have hcw:w.heap.size≤wr.heap.size:=hc.size
  by_cases hlt:n < m
  ·have hd:decide ((n:Int) < (m:Int))=true:=decide_eq_true (by omega)
   rcases M' with _|⟨x0,M0⟩
   ·have PP:=Lib.hid (qpop_nil s C wr hq)
    have HE:=Lib.hid (show wr.ownsRow w.heap.size 165 3 (.slice A n ca) n (enV L)∧M.Perm L∧L.Pairwise leE∧Chg (fun j=>j=s∨gP C j) w wr from ⟨hown,by simpa using hp,hpw,hc⟩)
    clear hown hp hpw hle hq hc hlen
    go_wp2_with fail
    refine PP.out.mono ?_
    rintro e w2 ⟨rfl,hb2⟩
    have hb3:Below wr.heap.size wr (w2.alloc (.cells #[.int .u64 0, .int .u64 0, .int .i64 0] 165)):=hb2.alloc hb2.size _
    have HE2:=Lib.hid (show (w2.alloc (.cells #[.int .u64 0, .int .u64 0, .int .i64 0] 165)).ownsRow w.heap.size 165 3 (.slice A L.length ca) L.length (enV L)∧L.Perm M∧L.Pairwise leE∧Chg (fun j=>j=s∨gP C j) w (w2.alloc (.cells #[.int .u64 0, .int .u64 0, .int .i64 0] 165)) from ⟨by rw [hL];exact own_keep HE.out.1 hb3,HE.out.2.1.symm,HE.out.2.2.1,HE.out.2.2.2.trans (Chg.of (X:=fun _=>False) hb3) (fun k hk=>hk.elim)⟩)
    clear hb2 hb3
    go_wp2_with fail
    go_ret
    exact ⟨A,ca,L,by rw [hL];rfl,HE2.out⟩
   ·have PP:=Lib.hid (qpop_any s C (x0 :: M0) wr hq (by simp at hlen ⊢;omega) (by simp))
    have HR:=Lib.hid (show wr.ownsRow w.heap.size 165 3 (.slice A n ca) n (enV L)∧M.Perm (L ++ x0 :: M0)∧L.Pairwise leE∧(∀ x ∈ L,∀ y ∈ x0 :: M0,leE x y)∧Chg (fun j=>j=s∨gP C j) w wr from ⟨hown,hp,hpw,hle,hc⟩)
    clear hown hp hpw hle hq hc
    go_wp2_with fail
    refine PP.out.mono ?_
    rintro e' w2 ⟨e,M2,rfl,hp2,hmin2,hq2,hc2⟩
    have hs2:=hc2.size
    have hcw2:Chg (fun j=>j=s∨gP C j) w w2:=HR.out.2.2.2.2.trans hc2 (fun k hk => .inl hk)
    have hown2:w2.ownsRow w.heap.size 165 3 (.slice A n ca) n (enV L):=own_chg HR.out.1 hc2 (fun k hk e=>by
     have h1:=HR.out.1.lt k hk
     rcases e with e|e
     ·omega
     ·have:=hfar.out k e;omega)
    have HQ:=Lib.hid (And.intro hown2 (And.intro hcw2 (And.intro hp2 (And.intro hmin2 hq2))))
    clear hp2 hmin2 hq2 hc2 hcw2 hown2
    have h9:=cells_abc_new (w2.alloc (.cells #[.int .u64 e.key, .int .u64 e.tie, .int .i64 e.item] 165)) (.int .u64 e.key) (.int .u64 e.tie) (.int .i64 e.item) 165
    rw [show (w2.alloc (.cells #[.int .u64 e.key, .int .u64 e.tie, .int .i64 e.item] 165)).heap.size=w2.heap.size+1 by simp] at h9
    have H9:=Lib.hid h9
    clear h9
    go_wp2_with (at_builtin;refine wpList_append_own_at _ rfl _ _ 166 rfl w.heap.size 165 i0 (.agg #[.int .u64 0, .int .u64 0, .int .i64 0]) 3 24 Tryz.underlying166 hi hz0 hz1 hz2 rfl (by decide) (.slice A n ca) n _ (by rfl) ((HQ.out.1.alloc _).alloc _) ⟨w2.heap.size+1,0,none⟩ 1 1 [.int .u64 e.key, .int .u64 e.tie, .int .i64 e.item] (by rfl) (by rfl) (H9.out) (by intro u hu;simp at hu;rcases hu with rfl|rfl|rfl <;> rfl) (by unfold maxLen;omega) (by omega) (by simp;omega) ?_)
    intro v3 w3 hown3 hgrow3 _ _
    obtain ⟨A3,k3,rfl⟩:=own_formN hown3
    have hlt3:=HQ.out.1.lt
    have hb3:Chg (fun j=>j=s∨gP C j) w w3:=((HQ.out.2.1.alloc _).alloc _).trans (Chg.ofGrown (X:=gP A) hgrow3 (fun k hk=>by rw [gOf_own] at hk;exact hk)) (fun k hk => .inr (hlt3 k (by rw [gOf_own];exact hk)).1)
    have hq3:QH w3 s C M2:=((HQ.out.2.2.2.2.keep ((Below.refl _ _).alloc (Nat.le_refl _) _)).keep ((Below.refl _ _).alloc (Nat.le_refl _) _)).chg (Chg.ofGrown (X:=gP A) hgrow3 (fun k hk=>by rw [gOf_own] at hk;exact hk)) (fun e=>by have:=hlt3 s (by rw [gOf_own];exact e);omega) (fun k hk e=>by have h1:=hlt3 k (by rw [gOf_own];exact e);have h2:=hfar.out k hk;omega)
    have HE:=Lib.hid (show ∃ L M',L.length=n+1∧w3.ownsRow w.heap.size 165 3 (.slice A3 (n+1) k3) (n+1) (enV L)∧M.Perm (L ++ M')∧L.Pairwise leE∧(∀ x ∈ L,∀ y ∈ M',leE x y)∧QH w3 s C M'∧Chg (fun j=>j=s∨gP C j) w w3 from ⟨L ++ [e],M2,by simp [hL],by rw [enV_app];exact hown3,HR.out.2.1.trans (by rw [List.append_assoc];exact List.Perm.append_left _ HQ.out.2.2.1),by
      rw [List.pairwise_append]
      exact ⟨HR.out.2.2.1,List.pairwise_singleton _ _,fun x hx y hy=>by
       obtain rfl:=List.mem_singleton.1 hy
       exact HR.out.2.2.2.1 x hx y (HQ.out.2.2.1.mem_iff.2 (by simp))⟩,fun x hx y hy=>by
      rcases List.mem_append.1 hx with hx|hx
      ·exact HR.out.2.2.2.1 x hx y (HQ.out.2.2.1.mem_iff.2 (List.mem_cons_of_mem _ hy))
      ·obtain rfl:=List.mem_singleton.1 hx
       exact HQ.out.2.2.2.1 y hy,hq3,hb3⟩)
    clear hown3 hgrow3 hb3 hq3 hlt3
    go_wp2_with fail
    go_roundw
    case rel=>exact ⟨n+1,A3,k3,by rw [hlen];simp,rfl,HE.out⟩
    case measure=>show M.length - (n+1) < M.length - n;rw [hlen];simp;omega
  ·have hd:decide ((n:Int) < (m:Int))=false:=decide_eq_false (by omega)
   have hM':M'=[]:=List.length_eq_zero_iff.1 (by omega)
   subst hM'
   have HE:=Lib.hid (show wr.ownsRow w.heap.size 165 3 (.slice A L.length ca) L.length (enV L)∧L.Perm M∧L.Pairwise leE∧Chg (fun j=>j=s∨gP C j) w wr from ⟨by rw [hL];exact hown,by simpa using hp.symm,hpw,hc⟩)
   clear hown hp hpw hle hq hc hlen
   go_wp2_with fail
   go_ret
   exact ⟨A,ca,L,by rw [hL];rfl,HE.out⟩
theorem qdrain_any (s m:Nat) (C:Option Addr) (M:List En) (w:World) (h:QH w s C M) (hM:M.length≤m) (hm:m≤100000):
  Calls Tryz.prog 87 #[.pointer (some ⟨s,0,none⟩), .int .i64 m] w fun e w'=>∃ A ca L,e = .returned (.slice A (L:List En).length ca)∧w'.ownsRow w.heap.size 165 3 (.slice A L.length ca) L.length (enV L)∧L.Perm M∧L.Pairwise leE∧Chg (fun j=>j=s∨gP C j) w w':=by
 have PT:=Lib.hid (qtaken_any s m C M w h hM hm)
 clear h hM
 go_enter Tryz.func87,Tryz.ntmps87
 go_wp2_with fail
 refine PT.out.mono ?_
 rintro e w2 ⟨A,ca,L,rfl,r⟩
 have HE:=Lib.hid r
 clear r
 go_wp2_with fail
 go_ret
 exact ⟨A,ca,L,rfl,HE.out⟩
structure Wb (w:World) (wb:Nat) (Pp Pc:Option Addr) (q:Nat):Prop where
 c0:w.cell? ⟨wb,0,none⟩=some (.pointer Pp)
 c1:w.cell? ⟨wb,1,none⟩=some (.pointer Pc)
 c2:w.cell? ⟨wb,2,none⟩=some (.pointer (some ⟨q,0,none⟩))
structure Vb (w:World) (vb:Nat) (role tier:Int) (g:Gr):Prop where
 c0:w.cell? ⟨vb,0,none⟩=some (.int .i64 role)
 c1:w.cell? ⟨vb,1,none⟩=some (.int .i64 tier)
 c2:w.cell? ⟨vb,2,none⟩=some (.int .i64 g.ops)
 c3:w.cell? ⟨vb,3,none⟩=some (.int .i64 g.zoom)
 c4:w.cell? ⟨vb,4,none⟩=some (.int .i64 g.a)
 c5:w.cell? ⟨vb,5,none⟩=some (.int .i64 g.b)
 c6:w.cell? ⟨vb,6,none⟩=some (.int .i64 g.c)
 c7:w.cell? ⟨vb,7,none⟩=some (.int .i64 g.d)
 c8:w.cell? ⟨vb,8,none⟩=some (.bool g.void)
 c9:w.cell? ⟨vb,9,none⟩=some (.int .i64 g.til)
theorem Wb.lt {w:World} {wb q:Nat} {Pp Pc:Option Addr} (h:Wb w wb Pp Pc q):wb < w.heap.size:=cell_lt h.c0
theorem Vb.lt {w:World} {vb:Nat} {role tier:Int} {g:Gr} (h:Vb w vb role tier g):vb < w.heap.size:=cell_lt h.c0
theorem Wb.chg {X:Nat→Prop} {w w':World} {wb q:Nat} {Pp Pc:Option Addr} (h:Wb w wb Pp Pc q) (hc:Chg X w w') (h1:¬ X wb):Wb w' wb Pp Pc q:=
 ⟨(hc.cell (p:=⟨wb,0,none⟩) h.lt h1).trans h.c0,(hc.cell (p:=⟨wb,1,none⟩) h.lt h1).trans h.c1,(hc.cell (p:=⟨wb,2,none⟩) h.lt h1).trans h.c2⟩
theorem Vb.chg {X:Nat→Prop} {w w':World} {vb:Nat} {role tier:Int} {g:Gr} (h:Vb w vb role tier g) (hc:Chg X w w') (h1:¬ X vb):Vb w' vb role tier g:=
 ⟨(hc.cell (p:=⟨vb,0,none⟩) h.lt h1).trans h.c0,(hc.cell (p:=⟨vb,1,none⟩) h.lt h1).trans h.c1,(hc.cell (p:=⟨vb,2,none⟩) h.lt h1).trans h.c2,(hc.cell (p:=⟨vb,3,none⟩) h.lt h1).trans h.c3,(hc.cell (p:=⟨vb,4,none⟩) h.lt h1).trans h.c4,(hc.cell (p:=⟨vb,5,none⟩) h.lt h1).trans h.c5,(hc.cell (p:=⟨vb,6,none⟩) h.lt h1).trans h.c6,(hc.cell (p:=⟨vb,7,none⟩) h.lt h1).trans h.c7,(hc.cell (p:=⟨vb,8,none⟩) h.lt h1).trans h.c8,(hc.cell (p:=⟨vb,9,none⟩) h.lt h1).trans h.c9⟩
theorem grown_trans {w w1 w2:World} {x:Option Nat} (h:w.grownBy w1 x) (h':w1.grownBy w2 x):w.grownBy w2 x:=
 ⟨h'.os.trans h.os,h'.tape.trans h.tape,h'.output.trans h.output,Nat.le_trans h.size h'.size,fun k hk hx=>(h'.block k (Nat.lt_of_lt_of_le hk h.size) hx).trans (h.block k hk hx)⟩
theorem Tb.ltb {w:World} {lo q b k:Nat} {L:List Rl} {G:Nat→Prop} (h:Tb w lo q b k L G):b < w.heap.size:=by obtain ⟨_,_,_,_,_,A,c,P,S,B,c0,c1,_,hm,_⟩:=h;exact hm.lt
set_option maxHeartbeats 16000000 in
theorem pkeep_any (G:Nat→Prop) (lo q b k:Nat) (L:List Rl) (Pp Pc:Option Addr) (role tier id x y label z:Int) (g:Gr) (wb vb zb:Nat) (w:World) (h:Tb w lo q b k L G) (hgw:∀ x,G x→x < w.heap.size) (hk:k+1 < 1000000) (hcnt:cntB L≤1048576) (hn1:L.length≤1000000) (hw:Wb w wb Pp Pc q) (hv:Vb w vb role tier g) (hz:w.cell? ⟨zb,0,none⟩=some (.int .i64 z)) (hne:wb≠b∧vb≠b∧zb≠b):
  Calls Tryz.prog 44 #[.agg #[.int .i64 id, .int .i64 x, .int .i64 y, .int .i64 label], .pointer (some ⟨wb,0,none⟩), .pointer (some ⟨vb,0,none⟩), .pointer (some ⟨zb,0,none⟩)] w (TabPost G lo q b (k+2) L (.bool (seeB L role tier g x y label && (zoomT L role tier label x y == z))) w):=by
 have hbl:=h.ltb
 have PSee:=Lib.hid (fun (Y:World) (hY:Below w.heap.size w Y)=>see_any G lo q b k L Pp Pc role tier id x y label g Y (h.keep hY) (fun x e=>Nat.lt_of_lt_of_le (hgw x e) hY.size) (by omega) hcnt hn1)
 have PZ:=Lib.hid (fun (Y:World) (hT:Tb Y lo q b (k+1) L G) (hY:w.heap.size≤Y.heap.size)=>tzoom_any G lo q b (k+1) L role tier label x y Y hT (fun x e=>Nat.lt_of_lt_of_le (hgw x e) hY) (by omega) hcnt hn1)
 have HL:=Lib.hid (And.intro hw (And.intro hv hz))
 have hwl:=hw.lt
 have hvl:=hv.lt
 have hzl:zb < w.heap.size:=cell_lt hz
 obtain ⟨w0,w1,w2⟩:=hw
 obtain ⟨v0,v1,v2,v3,v4,v5,v6,v7,v8,v9⟩:=hv
 obtain ⟨n1,n2,n3⟩:=hne
 obtain ⟨sB,hsB⟩:∃ s,seeB L role tier g x y label=s:=⟨_,rfl⟩
 unfold TabPost seenV at PSee
 unfold TabPost at PZ
 rw [hsB] at PSee
 rw [hsB]
 obtain ⟨a0,h40⟩:∃ c,sel sB id=c:=⟨_,rfl⟩
 obtain ⟨a1,h41⟩:∃ c,sel sB (seeL L role tier g x y label)=c:=⟨_,rfl⟩
 obtain ⟨a2,h42⟩:∃ c,sel sB (x / sd (seeL L role tier g x y label)*sd (seeL L role tier g x y label))=c:=⟨_,rfl⟩
 obtain ⟨a3,h43⟩:∃ c,sel sB (y / sd (seeL L role tier g x y label)*sd (seeL L role tier g x y label))=c:=⟨_,rfl⟩
 obtain ⟨a4,h44⟩:∃ c,sel sB (x / sd (seeL L role tier g x y label)*sd (seeL L role tier g x y label)+sd (seeL L role tier g x y label) - 1)=c:=⟨_,rfl⟩
 obtain ⟨a5,h45⟩:∃ c,sel sB (y / sd (seeL L role tier g x y label)*sd (seeL L role tier g x y label)+sd (seeL L role tier g x y label) - 1)=c:=⟨_,rfl⟩
 rw [h40,h41,h42,h43,h44,h45] at PSee
 obtain ⟨zt,hzt⟩:∃ c,zoomT L role tier label x y=c:=⟨_,rfl⟩
 rw [hzt] at PZ
 rw [hzt]
 have HF:=Lib.hid (show ∀ (v:Bool) (w1 w2:World),Below w.heap.size w w1→w1.grownBy w2 (some b)→∀ (w3:World) (j:Nat),Tb w2 lo q b j L G→j≤k+2→Below w2.heap.size w2 w3→TabPost G lo q b (k+2) L (.bool v) w (.returned (.bool v)) w3 from fun v w1 w2 h1 h2 w3 j hT hj h3=>⟨rfl,(hT.keep h3).mono hj,grown_then (grown_after h1 h2) h3⟩)
 cases sB with
 | false=>
  rw [Bool.false_and]
  have HF:=Lib.hid (HF.out false)
  generalize TabPost G lo q b (k+2) L (.bool false) w=Post at HF ⊢
  clear h hgw hcnt hn1 hsB h40 h41 h42 h43 h44 h45 hzt hk PZ HL
  go_enter Tryz.func44,Tryz.ntmps44
  go_wp2_with fail
  go_at_call 8
  refine (PSee.out _ q9l).mono ?_
  rintro e W ⟨rfl,hT,hg⟩
  have HT:=Lib.hid (And.intro hT hg)
  have hs:=hg.size
  simp only [World.size_alloc] at hs
  clear hT hg PSee
  go_wp2_with fail
  (refine wp_region_later (W.heap.size+1) (by kernel_rfl) (by kernel_rfl) (by go_size) ?_;(repeat (go_big_quiet_step (fail)));refine wpQuiet_nil ?_;intro Xq hlXq hmXq)
  go_wp2_with fail
  exact HF.out _ W q9l HT.out.2 Xq.w (k+1) HT.out.1 (by omega) (show Below W.heap.size W Xq.w from q9l)
 | true=>
  rw [Bool.true_and]
  have HF:=Lib.hid (HF.out (zt == z))
  generalize TabPost G lo q b (k+2) L (.bool (zt == z)) w=Post at HF ⊢
  have hwn:w.heap.size≠b:=by omega
  have HSS:=Lib.hid (show ∀ W',Chg (fun j=>j=b) (w.alloc (.cells #[.int .i64 id, .int .i64 x, .int .i64 y, .int .i64 label] 32)) W'→(fun w'=>w'.cell? ⟨wb,2,none⟩=some (.pointer (some ⟨q,0,none⟩))∧w'.cell? ⟨vb,0,none⟩=some (.int .i64 role)∧w'.cell? ⟨vb,1,none⟩=some (.int .i64 tier)∧w'.cell? ⟨w.heap.size,3,none⟩=some (.int .i64 label)∧w'.cell? ⟨w.heap.size,1,none⟩=some (.int .i64 x)∧w'.cell? ⟨w.heap.size,2,none⟩=some (.int .i64 y)∧w'.cell? ⟨zb,0,none⟩=some (.int .i64 z)) W' from fun W' hc=>by
   have hz:(w.alloc (.cells #[.int .i64 id, .int .i64 x, .int .i64 y, .int .i64 label] 32)).heap.size=w.heap.size+1:=by simp
   exact ⟨(hc.cell (p:=⟨wb,2,none⟩) (by rw [hz];show wb < _;omega) n1).trans (by go_simp),(hc.cell (p:=⟨vb,0,none⟩) (by rw [hz];show vb < _;omega) n2).trans (by go_simp),(hc.cell (p:=⟨vb,1,none⟩) (by rw [hz];show vb < _;omega) n2).trans (by go_simp),(hc.cell (p:=⟨w.heap.size,3,none⟩) (by rw [hz];show w.heap.size < _;omega) hwn).trans (by go_simp),(hc.cell (p:=⟨w.heap.size,1,none⟩) (by rw [hz];show w.heap.size < _;omega) hwn).trans (by go_simp),(hc.cell (p:=⟨w.heap.size,2,none⟩) (by rw [hz];show w.heap.size < _;omega) hwn).trans (by go_simp),(hc.cell (p:=⟨zb,0,none⟩) (by rw [hz];show zb < _;omega) n3).trans (by go_simp)⟩)
  clear h hgw hcnt hn1 hsB h40 h41 h42 h43 h44 h45 hzt hk HL
  go_enter Tryz.func44,Tryz.ntmps44
  go_wp2_with fail
  go_at_call 8
  refine (PSee.out _ q9l).mono ?_
  rintro e W ⟨rfl,hT,hg⟩
  have hcW:Chg (fun j=>j=b) (w.alloc (.cells #[.int .i64 id, .int .i64 x, .int .i64 y, .int .i64 label] 32)) W:=Chg.ofGrown hg (fun k hk=>by injection hk with hk;exact hk.symm)
  have HT:=Lib.hid (And.intro hT (And.intro hg hcW))
  have hs:=hg.size
  simp only [World.size_alloc] at hs
  clear hT hg hcW PSee
  go_wp2_with fail
  have hcD:Chg (fun j=>j=b) (w.alloc (.cells #[.int .i64 id, .int .i64 x, .int .i64 y, .int .i64 label] 32)) (W.alloc (.cells #[.int .i64 a0, .int .i64 a1, .int .i64 a2, .int .i64 a3, .int .i64 a4, .int .i64 a5] 48)).drew:=(HT.out.2.2.alloc _).trans (Chg.of (X:=fun j=>j=b) (Below.drew (Below.refl _ _))) (fun k hk => .inl hk)
  have HCD:=Lib.hid hcD
  clear hcD
  refine wp_region_early (fun w'=>w'.cell? ⟨wb,2,none⟩=some (.pointer (some ⟨q,0,none⟩))∧w'.cell? ⟨vb,0,none⟩=some (.int .i64 role)∧w'.cell? ⟨vb,1,none⟩=some (.int .i64 tier)∧w'.cell? ⟨w.heap.size,3,none⟩=some (.int .i64 label)∧w'.cell? ⟨w.heap.size,1,none⟩=some (.int .i64 x)∧w'.cell? ⟨w.heap.size,2,none⟩=some (.int .i64 y)∧w'.cell? ⟨zb,0,none⟩=some (.int .i64 z)) (fun _=>true) (by kernel_rfl) (HSS.out _ HCD.out) (fun HS=>?_)
  (refine q9t (i:=0) rfl HS ?_;(try simp only [Act.put,q9x,q9y,q9z]))
  (refine q9t (i:=1) rfl HS ?_;(try simp only [Act.put,q9x,q9y,q9z]))
  (refine q9u (i:=2) rfl HS ?_;(try simp only [Act.put,q9x,q9y,q9z]))
  (refine q9u (i:=3) rfl HS ?_;(try simp only [Act.put,q9x,q9y,q9z]))
  (refine q9u (i:=4) rfl HS ?_;(try simp only [Act.put,q9x,q9y,q9z]))
  (refine q9u (i:=5) rfl HS ?_;(try simp only [Act.put,q9x,q9y,q9z]))
  (refine q9u (i:=6) rfl HS ?_;(try simp only [Act.put,q9x,q9y,q9z]))
  (refine q9u (i:=7) rfl HS ?_;(try simp only [Act.put,q9x,q9y,q9z]))
  (refine q9u (i:=8) rfl HS ?_;(try simp only [Act.put,q9x,q9y,q9z]))
  (refine q9u (i:=9) rfl HS ?_;(try simp only [Act.put,q9x,q9y,q9z]))
  (refine q9u (i:=10) rfl HS ?_;(try simp only [Act.put,q9x,q9y,q9z]))
  (refine q9u (i:=11) rfl HS ?_;(try simp only [Act.put,q9x,q9y,q9z]))
  (refine q9u (i:=13) rfl HS ?_;(try simp only [Act.put,q9x,q9y,q9z]))
  refine wpAnyE_oneG (i:=12) rfl (by kernel_rfl) (by kernel_rfl) ?_
  go_wp2_with fail
  go_at_call 28
  refine (PZ.out _ (HT.out.1.keep (((Below.refl _ _).alloc (Nat.le_refl _) _).drew)) (by simp;omega)).mono ?_
  rintro e W2 ⟨rfl,hT2,hg2⟩
  have hc2:Chg (fun j=>j=b) (w.alloc (.cells #[.int .i64 id, .int .i64 x, .int .i64 y, .int .i64 label] 32)) W2:=HCD.out.trans (Chg.ofGrown (X:=fun j=>j=b) hg2 (fun k hk=>by injection hk with hk;exact hk.symm)) (fun k hk => .inl hk)
  have HS2:=HSS.out _ hc2
  have HT2:=Lib.hid (show Tb W2 lo q b (k+2) L G∧W.grownBy W2 (some b) from ⟨hT2,grown_after (((Below.refl _ _).alloc (Nat.le_refl _) _).drew) hg2⟩)
  clear hT2 hg2 hc2
  go_wp2_with fail
  refine ⟨fun _=>HS2,?_⟩
  refine wpAnyE_oneG (i:=14) rfl (by kernel_rfl) (by kernel_rfl) ?_
  go_wp2_with fail
  refine ⟨fun _=>HS2,?_⟩
  refine wpAnyE_one (i:=15) rfl (by kernel_rfl) ?_
  go_wp2_with fail
  refine ⟨fun _=>HS2,?_⟩
  refine wpAnyE_one (i:=16) rfl (by kernel_rfl) ?_
  go_wp2_with fail
  refine ⟨fun _=>HS2,?_⟩
  refine ⟨by kernel_rfl,?_⟩
  go_wp2_with fail
  exact HF.out w W2 (Below.refl _ _) (grown_after (show Below w.heap.size w (w.alloc (.cells #[.int .i64 id, .int .i64 x, .int .i64 y, .int .i64 label] 32)) from q9l) (grown_trans HT.out.2.1 HT2.out.2)) W2 (k+2) HT2.out.1 (Nat.le_refl _) (Below.refl _ _)
end Go.Proofs.YthlijfligikciaaGreat
