/- A part of one proof: CnD. No condition. -/
import Derived.Test.YthlijfligikciaaGreatY41
namespace Go.Proofs.YthlijfligikciaaGreat
open Go.RowKit Go.Maps
set_option linter.unusedSimpArgs false
set_option linter.unusedVariables false
set_option maxRecDepth 2000
def kwC (k:Fin 4→CT):Nat→Nat
 | 0=>0
 | 1=>(k 0).wt
 | 2=>(k 0).wt+(k 1).wt
 | 3=>(k 0).wt+((k 1).wt+(k 2).wt)
 | _=>(k 0).wt+((k 1).wt+((k 2).wt+(k 3).wt))
theorem kwC_step {k:Fin 4→CT} {j:Nat} (h:j < 4):kwC k (j+1)=kwC k j+(k ⟨j,h⟩).wt:=by
 match j,h with
 | 0,_|1,_|2,_|3,_=>simp [kwC] <;> omega
theorem kwC_le {k:Fin 4→CT}:∀ j,kwC k j≤(k 0).wt+((k 1).wt+((k 2).wt+(k 3).wt))
 | 0|1|2|3|n+4=>by simp only [kwC] <;> omega
theorem eql_keepC (f:Fn) (c:Array Value) (w:World):(binOp .eql 108 (.func f #[] c) .nilFunc).run Tryz.prog w = .ok (.bool false) w:=by kernel_rfl
def OpcPost (T:Nat→(Nat→Prop)→World→Prop) (G0:Nat→Prop) (bt k q sq bm z:Nat) (T0:CT) (R:List Sh) (px py lv:Int) (K:Value) (n:Nat) (A:Option Addr) (Wt:List (Option Addr)) (C:Option Addr) (M:List En) (kp:Sh→Bool) (t:CT) (w:World) (e:Ending) (w':World):Prop:=
 e = .returned (.tuple #[])∧∃ C' A' wc' Ws J n',SkC T G0 bt k q sq bm z T0 R px py lv K n' A' wc' (Wt ++ Ws) C' (J.map Jt.en ++ M) w'∧Chg (QXC bt k sq A C) w w'∧(∀ j,gP C' j→gP C j∨w.heap.size≤j)∧(∀ j,gP A' j→gP A j∨w.heap.size≤j)∧(jtsR kp J).Perm (t.sh.filter kp)∧(∀ i ∈ J,JtOk T0 (Wt ++ Ws) kp i)∧wtJ J+1≤t.wt∧n'+2*cnJ J≤n+2*t.sh.length∧Ws.length≤4
def OcL1 (T:Nat→(Nat→Prop)→World→Prop) (G0:Nat→Prop) (bt k q sq bm z:Nat) (T0:CT) (R:List Sh) (px py lv:Int) (K:Value) (n:Nat) (A:Option Addr) (wc:Nat) (Wt:List (Option Addr)) (C:Option Addr) (M:List En) (kp:Sh→Bool) (NL:List Sh) (w:World) (U:List Sh) (wr:World):Prop:=
 ∃ C1 J n1,SkC T (fun x=>G0 x∨x=w.heap.size) bt k q sq bm z T0 R px py lv K n1 A wc Wt C1 (J.map Jt.en ++ M) wr∧Chg (QXC bt k sq A C) w wr∧(∀ j,gP C1 j→gP C j∨w.heap.size+1≤j)∧(jtsR kp J ++ U.filter kp).Perm (NL.filter kp)∧(∀ i ∈ J,JtOk T0 Wt kp i)∧wtJ J+U.length≤NL.length∧n1+2*U.length≤n+2*NL.length∧cnJ J=0∧∀ s ∈ U,s ∈ NL
def OcL2 (T:Nat→(Nat→Prop)→World→Prop) (G0:Nat→Prop) (bt k q sq bm z:Nat) (T0:CT) (R:List Sh) (px py lv:Int) (K:Value) (n1:Nat) (A:Option Addr) (Wt:List (Option Addr)) (C:Option Addr) (M:List En) (kp:Sh→Bool) (NL:List Sh) (kk:Fin 4→CT) (w:World) (j:Nat) (wr:World):Prop:=
 ∃ C1 A1 wc1 Ws J,SkC T G0 bt k q sq bm z T0 R px py lv K n1 A1 wc1 (Wt ++ Ws) C1 (J.map Jt.en ++ M) wr∧Chg (QXC bt k sq A C) w wr∧(∀ j,gP C1 j→gP C j∨w.heap.size≤j)∧(∀ j,gP A1 j→gP A j∨w.heap.size≤j)∧(jtsR kp J).Perm ((NL ++ ks kk j).filter kp)∧(∀ i ∈ J,JtOk T0 (Wt ++ Ws) kp i)∧wtJ J≤NL.length+kwC kk j∧cnJ J≤(ks kk j).length∧Ws.length≤j
set_option maxHeartbeats 16000000 in
theorem copen_any (wb vb zb bt:Nat) (kp:Sh→Bool) (T:Nat→(Nat→Prop)→World→Prop) (EN:Env 52 (fun s:Sh=>#[.agg #[.int .i64 s.id, .int .i64 s.a, .int .i64 s.b, .int .i64 s.c, .int .i64 s.d, .int .i64 s.label], .pointer (some ⟨wb,0,none⟩), .pointer (some ⟨vb,0,none⟩), .pointer (some ⟨zb,0,none⟩)]) bt kp T) (G0:Nat→Prop) (k q sq bm z wc n:Nat) (T0:CT) (R:List Sh) (A C:Option Addr) (Wt:List (Option Addr)) (px py lv:Int) (M:List En) (t:CT) (w:World)
  (h:SkC T G0 bt k q sq bm z T0 R px py lv (.func (.func 52) #[] #[.pointer (some ⟨wb,0,none⟩), .pointer (some ⟨vb,0,none⟩), .pointer (some ⟨zb,0,none⟩)]) n A wc Wt C M w) (hsub:SubC T0 t) (hne:t.sh.length≠0) (hn9:n+2*t.sh.length≤400000) (hM:M.length+t.wt≤400000) (hW:Wt.length≤300000):
  Calls Tryz.prog 99 #[.pointer (some ⟨k,0,none⟩), .pointer t.ptr] w (OpcPost T G0 bt k q sq bm z T0 R px py lv (.func (.func 52) #[] #[.pointer (some ⟨wb,0,none⟩), .pointer (some ⟨vb,0,none⟩), .pointer (some ⟨zb,0,none⟩)]) n A Wt C M kp t w):=by
 generalize hPost:OpcPost T G0 bt k q sq bm z T0 R px py lv (.func (.func 52) #[] #[.pointer (some ⟨wb,0,none⟩), .pointer (some ⟨vb,0,none⟩), .pointer (some ⟨zb,0,none⟩)]) n A Wt C M kp t w=Post
 cases t with
 | nil=>exact absurd rfl hne
 | node nb m NL kk=>
  obtain ⟨⟨l,x,y,hin0⟩,hsh,hbl⟩:=id hsub
  have hin:=hin0 w z h.g.inn
  have hCA:=hin.1
  have hnl:=hCA.1
  have hml:=hin.2.1.lt
  have n3:w.cell? ⟨nb,3,none⟩=some (.pointer (kk 0).ptr):=(hCA.2 3 (by decide)).1
  have n4:w.cell? ⟨nb,4,none⟩=some (.pointer (kk 1).ptr):=(hCA.2 4 (by decide)).1
  have n5:w.cell? ⟨nb,5,none⟩=some (.pointer (kk 2).ptr):=(hCA.2 5 (by decide)).1
  have n6:w.cell? ⟨nb,6,none⟩=some (.pointer (kk 3).ptr):=(hCA.2 6 (by decide)).1
  have n8:w.cell? ⟨nb,8,none⟩=some (.map (some m)):=(hCA.2 8 (by decide)).1
  have hnn:=h.ng nb (.inl (.inr (hbl nb (.inl rfl))))
  have hmn:=h.ng m (.inl (.inr (hbl m (.inr (.inl rfl)))))
  have hmf:=h.far m (.inl (.inr (hbl m (.inr (.inl rfl)))))
  have hsl:=h.sl
  have hbs:=h.bs
  have hkl:=h.sk.lt
  have hwt:(CT.node nb m NL kk).wt=1+NL.length+((kk 0).wt+((kk 1).wt+((kk 2).wt+(kk 3).wt))):=by rw [cwt_node,if_neg hne]
  have hln:=csh_len nb m NL kk
  have hNl:n+2*NL.length≤400000:=by omega
  have hNm:M.length+NL.length+((kk 0).wt+((kk 1).wt+((kk 2).wt+(kk 3).wt)))≤400000:=by omega
  have H:=Lib.hid (show SkC T G0 bt k q sq bm z T0 R px py lv (.func (.func 52) #[] #[.pointer (some ⟨wb,0,none⟩), .pointer (some ⟨vb,0,none⟩), .pointer (some ⟨zb,0,none⟩)]) n A wc Wt C M w∧ML w z m NL∧SubC T0 (.node nb m NL kk) from ⟨h,hin.2.1,hsub⟩)
  have HN:=Lib.hid (And.intro hwt hln)
  rw [show (CT.node nb m NL kk).ptr=some ⟨nb,0,none⟩ from rfl]
  clear h hsub hne hn9 hM hin0 hsh hbl hin hCA hwt hln
  go_enter Tryz.func99,Tryz.ntmps99
  go_wp2_with (first
   | (at_range;refine wpList_range_sh rfl _ 123 rfl 75 Tryz.underlying123 rfl H.out.2.1 ?_))
  intro w0 D left0 cnt0 hrg0 hg0 hs0
  have hb0:Below w.heap.size w w0:=grown_none hg0
  have H0:=Lib.hid (And.intro hb0 hrg0)
  clear hb0 hg0 hrg0
  go_wp2_with fail
  go_loopw [13] (fun _ wr=>∃ (U:List Sh) (left:Lit→Bool) (cnt:Nat),(w.heap.size+1≤wr.heap.size)∧Hid (RgL wr z m w.heap.size U D left cnt∧OcL1 T G0 bt k q sq bm z T0 R px py lv (.func (.func 52) #[] #[.pointer (some ⟨wb,0,none⟩), .pointer (some ⟨vb,0,none⟩), .pointer (some ⟨zb,0,none⟩)]) n A wc Wt C M kp NL w U wr)) (fun _ wr=>wr.rangeLeft m w.heap.size)
  case atStart=>
   refine ⟨NL,left0,cnt0,by omega,H0.out.2,C,[],n,?_,Chg.of H0.out.1,fun z hz => .inl hz,by simp [jtsR],fun i hi=>by (cases hi),by simp [wtJ],by omega,rfl,fun s hs=>hs⟩
   exact H.out.1.grow EN H0.out.1 (fun x hx=>hx.elim .inl (fun e => .inr (by omega))) (fun x hx=>hx.elim (fun e=>by have:=H.out.1.g0 x e;omega) (fun e=>by omega)) (.inl H.out.1.gs) (.inl H.out.1.gk)
  case round=>
   obtain ⟨U,left,cnt,hsz,hrel⟩:=hrel
   go_wp2_with (first
    | (at_next;refine wpList_next_sh rfl _ rfl rfl hrel.out.1 ?_ ?_))
   ·intro hU
    obtain ⟨hrg,C1,J,n1,hk1,hc1,hC1,hp1,ho1,hw1,hn1,hcn1,_⟩:=hrel.out
    subst hU
    have hk1:=hk1.swap EN (G1:=G0) (fun x e => .inl e) H.out.1.gs H.out.1.gk
    rw [List.filter_nil,List.append_nil] at hp1
    have n3:wr.cell? ⟨nb,3,none⟩=some (.pointer (kk 0).ptr):=(hc1.cell (p:=⟨nb,3,none⟩) hnl hnn).trans n3
    have n4:wr.cell? ⟨nb,4,none⟩=some (.pointer (kk 1).ptr):=(hc1.cell (p:=⟨nb,4,none⟩) hnl hnn).trans n4
    have n5:wr.cell? ⟨nb,5,none⟩=some (.pointer (kk 2).ptr):=(hc1.cell (p:=⟨nb,5,none⟩) hnl hnn).trans n5
    have n6:wr.cell? ⟨nb,6,none⟩=some (.pointer (kk 3).ptr):=(hc1.cell (p:=⟨nb,6,none⟩) hnl hnn).trans n6
    have hix:∀ (j:Nat) (hj:j < 4) (W:World),(Instr.index 188 (.agg #[.pointer (kk 0).ptr, .pointer (kk 1).ptr, .pointer (kk 2).ptr, .pointer (kk 3).ptr]) (.int .i64 (j:Nat))).run Tryz.prog W = .ok (.pointer (kk ⟨j,hj⟩).ptr) W:=fun j hj W=>by
     match j,hj with
     | 0,_=>rfl
     | 1,_=>rfl
     | 2,_=>rfl
     | 3,_=>rfl
    have HIX:=Lib.hid hix
    have HR:=Lib.hid (And.intro hk1 (And.intro hc1 (And.intro hC1 (And.intro hp1 (And.intro ho1 (And.intro hw1 (And.intro hn1 hcn1)))))))
    have hn1':n1≤n+2*NL.length:=by omega
    clear hix hrel hrg hk1 hc1 hC1 hp1 ho1 hw1 hn1 hcn1 n8
    go_wp2_with fail
    go_loopw [46] (fun u wr=>∃ j:Nat,u = .int .i64 j∧j≤4∧(w.heap.size+1≤wr.heap.size)∧Hid (OcL2 T G0 bt k q sq bm z T0 R px py lv (.func (.func 52) #[] #[.pointer (some ⟨wb,0,none⟩), .pointer (some ⟨vb,0,none⟩), .pointer (some ⟨zb,0,none⟩)]) n1 A Wt C M kp NL kk w j wr)) (fun u _=>4 - (intOf u).toNat)
    case atStart=>
     refine ⟨0,rfl,by omega,hsz,C1,A,wc,[],J,by rw [List.append_nil];exact HR.out.1,HR.out.2.1,fun j hj=>(HR.out.2.2.1 j hj).elim .inl (fun e => .inr (by omega)),fun j hj => .inl hj,by simpa [ks] using HR.out.2.2.2.1,by rw [List.append_nil];exact HR.out.2.2.2.2.1,?_,?_,Nat.le_refl _⟩
     ·have:=HR.out.2.2.2.2.2.1;simp [kwC] at this ⊢;omega
     ·rw [HR.out.2.2.2.2.2.2.2];exact Nat.zero_le _
    case round=>
     obtain ⟨j,rfl,hjm,hsz,hrel⟩:=hrel
     obtain ⟨C1,A1,wc1,Ws,J,hk1,hc1,hC1,hA1,hp1,ho1,hw1,hcn1,hWs⟩:=hrel.out
     have hkw:=kwC_le (k:=kk) j
     by_cases hj:j < 4
     ·have hdj:decide ((j:Int) < 4)=true:=decide_eq_true (by omega)
      have hix:=HIX.out j hj
      obtain ⟨⟨l',x',y',hin'⟩,hsh',hbl'⟩:=id (sub_kid H.out.2.2 ⟨j,hj⟩)
      have hJl:=wtJ_len J ho1
      have hlen:(J.map Jt.en ++ M).length≤400000:=by rw [List.length_append,List.length_map];omega
      have hWl:(Wt ++ Ws).length≤400000:=by rw [List.length_append];omega
      have PP:=Lib.hid (node_skc EN (kk ⟨j,hj⟩) hk1 (hin' wr z hk1.g.inn) hbl' hlen hWl)
      have HZ:=Lib.hid (And.intro hc1 (And.intro hC1 (And.intro hA1 (And.intro hp1 (And.intro ho1 (And.intro hw1 (And.intro hcn1 hWs)))))))
      clear hrel hk1 hc1 hC1 hA1 hp1 ho1 hw1 hcn1 hWs hin' hsh' hbl' hJl hlen hWl hkw
      obtain ⟨ka,hka⟩:∃ q,(kk ⟨j,hj⟩).ptr=q:=⟨_,rfl⟩
      have HKA:=Lib.hid hka
      rw [hka] at hix PP
      clear hka
      go_wp2_with fail
      go_at_call 98
      refine PP.out.mono ?_
      rintro e w6 ⟨rfl,C2,A2,wc2,Ws2,dd,hs2,hW2,hWl2,hc2,hC2,hA2⟩
      have hz2:=hc2.size
      have HE:=Lib.hid (show OcL2 T G0 bt k q sq bm z T0 R px py lv (.func (.func 52) #[] #[.pointer (some ⟨wb,0,none⟩), .pointer (some ⟨vb,0,none⟩), .pointer (some ⟨zb,0,none⟩)]) n1 A Wt C M kp NL kk w (j+1) w6 by
       obtain ⟨hc1,hC1,hA1,hp1,ho1,hw1,hcn1,hWs⟩:=HZ.out
       have hcc:Chg (QXC bt k sq A C) w w6:=hc1.trans hc2 (fun z hz=>QXC_trans hA1 hC1 z hz)
       have hCC:∀ z,gP C2 z→gP C z∨w.heap.size≤z:=fun z hz=>(hC2 z hz).elim (hC1 z) (fun e => .inr (by omega))
       have hAA:∀ z,gP A2 z→gP A z∨w.heap.size≤z:=fun z hz=>(hA2 z hz).elim (hA1 z) (fun e => .inr (by omega))
       have hks:ks kk (j+1)=ks kk j ++ (kk ⟨j,hj⟩).sh:=ks_step hj
       have hkw:kwC kk (j+1)=kwC kk j+(kk ⟨j,hj⟩).wt:=kwC_step hj
       have hok2:∀ i ∈ J,JtOk T0 (Wt ++ (Ws ++ Ws2)) kp i:=fun i hi=>by rw [← List.append_assoc];exact jok_more ho1 Ws2 i hi
       have hWW:(Ws ++ Ws2).length≤j+1:=by rw [List.length_append];omega
       by_cases h0:(kk ⟨j,hj⟩).sh.length=0
       ·rw [if_pos h0] at hs2
        have hnil:=List.length_eq_zero_iff.1 h0
        refine ⟨C2,A2,wc2,Ws ++ Ws2,J,by rw [← List.append_assoc];exact hs2,hcc,hCC,hAA,?_,hok2,by rw [hkw];omega,by rw [hks,List.length_append];omega,hWW⟩
        rw [hks,hnil,List.append_nil]
        exact hp1
       ·rw [if_neg h0] at hs2
        refine ⟨C2,A2,wc2,Ws ++ Ws2, .nd dd (Wt ++ Ws).length (kk ⟨j,hj⟩) :: J,by rw [← List.append_assoc,List.map_cons,List.cons_append];exact hs2,hcc,hCC,hAA,?_,fun i hi=>?_,?_,?_,hWW⟩
        ·rw [hks,← List.append_assoc,List.filter_append,jts_cons]
         exact (hp1.append_left _).trans List.perm_append_comm
        ·rcases List.mem_cons.1 hi with rfl|hi
         ·refine ⟨?_,h0,sub_kid H.out.2.2 ⟨j,hj⟩⟩
          rw [hW2 h0,← List.append_assoc,HKA.out]
          simp
         ·exact hok2 i hi
        ·rw [wtJ_cons,hkw];show (kk ⟨j,hj⟩).wt+_≤_;omega
        ·have hkl:(ks kk (j+1)).length=(ks kk j).length+(kk ⟨j,hj⟩).sh.length:=by rw [hks,List.length_append]
         rw [cnJ_cons];show (kk ⟨j,hj⟩).sh.length+_≤_;omega)
      clear hs2 hW2 hWl2 hc2 hC2 hA2 hix
      go_wp2_with fail
      go_roundw
      case rel=>exact ⟨j+1,by go_num,by omega,by omega,HE.out⟩
      case measure=>simp [intOf];omega
     ·obtain rfl:j=4:=by omega
      have hdj:decide (((4:Nat):Int) < 4)=false:=by decide
      have HE:=Lib.hid (show Post (.returned (.tuple #[])) wr by
       rw [← hPost]
       have hk4:(ks kk 4).length=(kk 0).sh.length+((kk 1).sh.length+((kk 2).sh.length+(kk 3).sh.length)):=by simp [ks]
       have h1:=HN.out.1
       have h2:=HN.out.2
       exact ⟨rfl,C1,A1,wc1,Ws,J,n1,hk1,hc1,hC1,hA1,hp1,ho1,by omega,by omega,hWs⟩)
      clear hrel hk1 hc1 hC1 hA1 hp1 ho1 hw1 hcn1 hWs
      go_wp2_with fail
      exact bodyPost_end (v := .tuple #[]) (by first|rfl|kernel_rfl) rfl HE.out
   ·intro s U' w1 left1 cnt1 hp hrg1 hlt1 hg1 hs1 hen1
    obtain ⟨hrg,C1,J,n1,hk1,hc1,hC1,hp1,ho1,hw1,hn1,hcn1,hU⟩:=hrel.out
    have hsU:s ∈ U:=hp.mem_iff.2 (List.mem_cons_self ..)
    have hUl:U.length=U'.length+1:=hp.length_eq
    have hCr:¬ gP C1 w.heap.size:=fun e=>(hC1 _ e).elim (fun e=>by have:=(H.out.1.qh.far _ e).2;omega) (fun e=>by omega)
    have hAr:¬ gP A w.heap.size:=fun e=>by have:=(H.out.1.sk.far _ e).2;omega
    have hcr:Chg (fun j=>j=w.heap.size) wr w1:=Chg.ofGrown hg1 (fun k hk=>by injection hk with hk;exact hk.symm)
    have hk1:=hk1.iter EN (.inr rfl) hkl hAr hCr hcr
    have hcw1:Chg (QXC bt k sq A C) w w1:=hc1.trans hcr (fun q e => .inr (by have e':q=w.heap.size:=e;omega))
    have hJl:=wtJ_len J ho1
    have hlen:(J.map Jt.en ++ M).length≤400000:=by rw [List.length_append,List.length_map];omega
    have hsz1:w.heap.size+1≤w1.heap.size:=by omega
    have PK:=Lib.hid (fun (Y:World) (hY:Below w1.heap.size w1 Y)=>EN.keep n1 _ s Y (EN.below hk1.t hY) (fun x e=>Nat.lt_of_lt_of_le (hk1.gw x e) hY.size) (by omega))
    have k0:=hk1.sk.c0
    have k4:=hk1.sk.c4
    have hkl1:=hk1.sk.lt
    have hbl1:=EN.lt hk1.t
    have hmr:m≠w.heap.size:=by omega
    have hwr1:wr.heap.size=w1.heap.size:=hs1.symm
    have hrb:w.heap.size≠bt:=by omega
    have HZ:=Lib.hid (And.intro hk1 (And.intro hcw1 (And.intro hC1 (And.intro hp1 (And.intro ho1 (And.intro hw1 (And.intro hn1 (And.intro hcn1 (And.intro hU (And.intro hp (And.intro hrg1 hrg.rg.left_eq)))))))))))
    have HL:=Lib.hid hlen
    clear hrel hrg hk1 hcw1 hC1 hp1 ho1 hw1 hn1 hcn1 hU hp hrg1 hcr hc1 hg1 hCr hAr hJl hlen hs1
    have hek:=eql_keepC
    have PK:Hid (∀ (Y:World),Below w1.heap.size w1 Y→Calls Tryz.prog 52 #[.agg #[.int .i64 s.id, .int .i64 s.a, .int .i64 s.b, .int .i64 s.c, .int .i64 s.d, .int .i64 s.label], .pointer (some ⟨wb,0,none⟩), .pointer (some ⟨vb,0,none⟩), .pointer (some ⟨zb,0,none⟩)] Y fun e w'=>e = .returned (.bool (kp s))∧T (n1+2) (gU (gU (fun x=>G0 x∨x=w.heap.size) A) C1) w'∧Y.grownBy w' (some bt)):=PK
    obtain ⟨kv,hkv⟩:∃ v,kp s=v:=⟨_,rfl⟩
    rw [hkv] at PK
    have HKV:=Lib.hid hkv
    clear hkv
    cases kv with
    | false=>
     go_wp2_with fail
     (refine wp_region_later_tail 11 (w1.heap.size+1) (by kernel_rfl) (by kernel_rfl) (by go_size) ?_;simp only [List.take_succ_cons,List.take_zero,List.drop_succ_cons,List.drop_zero];(repeat (go_big_quiet_step (fail)));refine wpQuiet_nil ?_;intro Xq hlXq hmXq)
     have hbq:Below w1.heap.size w1 Xq.w:=q9l
     go_wp2_with fail
     go_at_call 52
     refine (PK.out _ hbq).mono ?_
     rintro e W ⟨rfl,hT,hg⟩
     have hcW:Chg (fun j=>j=bt) w1 W:=(Chg.of (X:=fun j=>j=bt) hbq).trans (Chg.ofGrown (X:=fun j=>j=bt) hg (fun k hk=>by injection hk with hk;exact hk.symm)) (fun k hk => .inl hk)
     have hsW:=hcW.size
     have hrgW:=HZ.out.2.2.2.2.2.2.2.2.2.2.1.same (w':=W) (hcW.block m (by omega) hmf.2) (hcW.block w.heap.size (by omega) hrb)
     have hmW:=hrgW.rg.left_eq
     have hm0:=HZ.out.2.2.2.2.2.2.2.2.2.2.2
     have HE:=Lib.hid (show RgL W z m w.heap.size U' D left1 cnt1∧OcL1 T G0 bt k q sq bm z T0 R px py lv (.func (.func 52) #[] #[.pointer (some ⟨wb,0,none⟩), .pointer (some ⟨vb,0,none⟩), .pointer (some ⟨zb,0,none⟩)]) n A wc Wt C M kp NL w U' W by
      obtain ⟨hk1,hcw1,hC1,hp1,ho1,hw1,hn1,hcn1,hU,hp,_,_⟩:=HZ.out
      refine ⟨hrgW,C1,J,n1+2,hk1.called EN hcW hT,hcw1.trans hcW (fun j e => .inl (.inl e)),hC1,?_,ho1,by omega,by omega,hcn1,fun s hs=>hU s (hp.mem_iff.2 (List.mem_cons_of_mem _ hs))⟩
      have h9:=hp.filter kp
      rw [List.filter_cons_of_neg (by rw [HKV.out];simp)] at h9
      exact (h9.symm.append_left _).trans hp1)
     have hsW1:w.heap.size+1≤W.heap.size:=by omega
     clear hT hg hcW hrgW
     go_wp2_with fail
     go_roundw
     case rel=>exact ⟨U',left1,cnt1,hsW1,HE.out⟩
     case measure=>rw [hmW,hm0];exact hlt1
    | true=>
     go_wp2_with fail
     (refine wp_region_later_tail 11 (w1.heap.size+1) (by kernel_rfl) (by kernel_rfl) (by go_size) ?_;simp only [List.take_succ_cons,List.take_zero,List.drop_succ_cons,List.drop_zero];(repeat (go_big_quiet_step (fail)));refine wpQuiet_nil ?_;intro Xq hlXq hmXq)
     have hbq:Below w1.heap.size w1 Xq.w:=q9l
     go_wp2_with fail
     go_at_call 52
     refine (PK.out _ hbq).mono ?_
     rintro e W ⟨rfl,hT,hg⟩
     have hcW:Chg (fun j=>j=bt) w1 W:=(Chg.of (X:=fun j=>j=bt) hbq).trans (Chg.ofGrown (X:=fun j=>j=bt) hg (fun k hk=>by injection hk with hk;exact hk.symm)) (fun k hk => .inl hk)
     have hsW:=hg.size
     have hkW:∀ i,W.cell? ⟨w1.heap.size,i,none⟩=Xq.w.cell? ⟨w1.heap.size,i,none⟩:=fun i=>hg.cell_far ⟨w1.heap.size,i,none⟩ (by show w1.heap.size < _;omega) (fun e=>by injection e with e;have e':w1.heap.size=bt:=e;omega)
     have r0:W.cell? ⟨w1.heap.size,0,none⟩=some (.int .i64 s.id):=(hkW 0).trans (by go_simp)
     have r1:W.cell? ⟨w1.heap.size,1,none⟩=some (.int .i64 s.a):=(hkW 1).trans (by go_simp)
     have r2:W.cell? ⟨w1.heap.size,2,none⟩=some (.int .i64 s.b):=(hkW 2).trans (by go_simp)
     have r3:W.cell? ⟨w1.heap.size,3,none⟩=some (.int .i64 s.c):=(hkW 3).trans (by go_simp)
     have r4:W.cell? ⟨w1.heap.size,4,none⟩=some (.int .i64 s.d):=(hkW 4).trans (by go_simp)
     have hkS:=HZ.out.1.called EN hcW hT
     have k6:W.cell? ⟨k,6,none⟩=some (.pointer (some ⟨sq,0,none⟩)):=hkS.sk.c6
     have PF:=Lib.hid (fun (Y:World) (hY:Below W.heap.size W Y)=>cfar_any k q sq wc px py lv _ A Wt s.a s.b s.c s.d Y (hkS.sk.keep hY))
     generalize farC px py lv s.a s.b s.c s.d=dd at PF
     have HW:=Lib.hid (And.intro hkS hcW)
     have hkWl:k < W.heap.size:=hkS.sk.lt
     have hw1W:w1.heap.size < W.heap.size:=by omega
     clear hT hg hcW hkW hkS
     go_wp2_with fail
     (refine wp_region_later_tail 11 (W.heap.size) (by kernel_rfl) (by kernel_rfl) (by go_size) ?_;simp only [List.take_succ_cons,List.take_zero,List.drop_succ_cons,List.drop_zero];(repeat (go_big_quiet_step ((first|(go_at_call 129;exact Later.call _ (Nat.le_trans (by go_size) (Later.is _).size) (PF.out _ q9l))))));refine wpQuiet_nil ?_;intro Xr hlXr hmXr)
     have hbr:Below W.heap.size W Xr.w:=q9l
     go_wp2_with fail
     go_at_call 86
     refine (qpush_any sq C1 (J.map Jt.en ++ M) ⟨dd,1,s.id⟩ _ (HW.out.1.keep EN hbr).qh (by have:=HL.out;omega)).mono ?_
     rintro e w6 ⟨rfl,C2,hq,hc,hC2⟩
     have hs6:=hc.size
     have hsr:=hbr.size
     have hrg6:=HZ.out.2.2.2.2.2.2.2.2.2.2.1.same (w':=w6) (((hc.block m (by omega) (fun e=>e.elim (fun e=>by omega) (fun e=>by have:=HZ.out.1.kC m e;omega))).trans (hbr.block m (by omega))).trans (HW.out.2.block m (by omega) hmf.2)) (((hc.block w.heap.size (by omega) (fun e=>e.elim (fun e=>by omega) (fun e=>(HZ.out.2.2.1 _ e).elim (fun e=>by have:=(H.out.1.qh.far _ e).2;omega) (fun e=>by omega)))).trans (hbr.block w.heap.size (by omega))).trans (HW.out.2.block w.heap.size (by omega) hrb))
     have hm6:=hrg6.rg.left_eq
     have hm0:=HZ.out.2.2.2.2.2.2.2.2.2.2.2
     have HE:=Lib.hid (show RgL w6 z m w.heap.size U' D left1 cnt1∧OcL1 T G0 bt k q sq bm z T0 R px py lv (.func (.func 52) #[] #[.pointer (some ⟨wb,0,none⟩), .pointer (some ⟨vb,0,none⟩), .pointer (some ⟨zb,0,none⟩)]) n A wc Wt C M kp NL w U' w6 by
      have hk6:=(HW.out.1.keep EN hbr).pushed EN hc hq hC2
      have hcW:=HW.out.2
      obtain ⟨hk1,hcw1,hC1,hp1,ho1,hw1,hn1,hcn1,hU,hp,_,_⟩:=HZ.out
      refine ⟨hrg6,C2, .rc dd s :: J,n1+2,by rw [List.map_cons,List.cons_append];exact hk6,((hcw1.trans hcW (fun j e => .inl (.inl e))).trans (Chg.of (X:=fun _=>False) hbr) (fun _ e=>e.elim)).trans hc (fun j e=>e.elim (fun e => .inl (.inr (.inr (.inl e)))) (fun e=>(hC1 j e).elim (fun e => .inl (.inr (.inr (.inr (.inr e))))) (fun e => .inr (by omega)))),fun j hj=>(hC2 j hj).elim (hC1 j) (fun e => .inr (by omega)),?_,fun i hi=>?_,?_,by omega,?_,fun s hs=>hU s (hp.mem_iff.2 (List.mem_cons_of_mem _ hs))⟩
      ·have h9:=hp.filter kp
       rw [List.filter_cons_of_pos (by rw [HKV.out])] at h9
       rw [jts_cons]
       refine List.Perm.trans ?_ ((h9.symm.append_left _).trans hp1)
       exact (List.perm_middle (l₁:=jtsR kp J)).symm
      ·rcases List.mem_cons.1 hi with rfl|hi
       ·exact ⟨H.out.2.2.2.1 s (by rw [sh_node];exact List.mem_append_left _ (hU s hsU)),HKV.out⟩
       ·exact ho1 i hi
      ·rw [wtJ_cons];show 1+wtJ J+_≤_;omega
      ·rw [cnJ_cons,hcn1];rfl)
     have hsW6:w.heap.size+1≤w6.heap.size:=by omega
     clear hq hc hC2 hrg6
     go_wp2_with fail
     go_roundw
     case rel=>exact ⟨U',left1,cnt1,hsW6,HE.out⟩
     case measure=>rw [hm6,hm0];exact hlt1
end Go.Proofs.YthlijfligikciaaGreat
