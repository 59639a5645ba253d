/- A part of one proof: TpR. No condition. -/
import Derived.Test.YthlijfligikciaaGreatY01
namespace Go.Proofs.YthlijfligikciaaGreat
open Go.RowKit
set_option linter.unusedSimpArgs false
set_option linter.unusedVariables false
set_option maxRecDepth 2000
def bxC (b:Bx) (j:Nat):Value:=([.int .i64 b.a, .int .i64 b.b, .int .i64 b.c, .int .i64 b.d]:List Value).getD j undef
def Bxs (w:World) (B:Nat) (A:Option Addr) (L:List Bx):Prop:=0 < L.length→∃ b o,A=some ⟨b,o,none⟩∧b < B∧∀ i,i < L.length→∀ j,j < 4→w.cell? ⟨b,o+i*4+j,none⟩=some (bxC (L.getD i bx0) j)
theorem Bxs.keep {w w':World} {B:Nat} {A:Option Addr} {L:List Bx} (h:Bxs w B A L) (hb:Below B w w'):Bxs w' B A L:=fun hn=>by
 obtain ⟨b,o,rfl,hlt,hc⟩:=h hn
 exact ⟨b,o,rfl,hlt,fun i hi j hj=>(hb.cell (p:=⟨b,o+i*4+j,none⟩) hlt).trans (hc i hi j hj)⟩
theorem Bxs.more {w:World} {B B':Nat} {A:Option Addr} {L:List Bx} (h:Bxs w B A L) (hb:B≤B'):Bxs w B' A L:=fun hn=>by
 obtain ⟨b,o,rfl,hlt,hc⟩:=h hn
 exact ⟨b,o,rfl,Nat.lt_of_lt_of_le hlt hb,hc⟩
theorem Bxs.up {w w':World} {B:Nat} {A:Option Addr} {L:List Bx} (h:Bxs w B A L) (hb:Below B w w') (hB:B≤w'.heap.size):Bxs w' w'.heap.size A L:=(h.keep hb).more hB
theorem bxs_at {w:World} {B i:Nat} {A:Option Addr} {L:List Bx} (h:Bxs w B A L) (hi:i < L.length):∃ b o,A=some ⟨b,o,none⟩∧b < B∧w.cell? ⟨b,o+i*4,none⟩=some (.int .i64 (L.getD i bx0).a)∧w.cell? ⟨b,o+i*4+1,none⟩=some (.int .i64 (L.getD i bx0).b)∧w.cell? ⟨b,o+i*4+2,none⟩=some (.int .i64 (L.getD i bx0).c)∧w.cell? ⟨b,o+i*4+3,none⟩=some (.int .i64 (L.getD i bx0).d):=by
 obtain ⟨b,o,hA,hb,hc⟩:=h (by omega)
 have hk:=hc i hi
 exact ⟨b,o,hA,hb,hk 0 (by decide),hk 1 (by decide),hk 2 (by decide),hk 3 (by decide)⟩
structure Rls (w:World) (B:Nat) (A:Option Addr) (L:List Rl) (P:Nat→Option Addr × Nat):Prop where
 at_:0 < L.length→∃ b o,A=some ⟨b,o,none⟩∧b < B∧∀ i,i < L.length→w.cell? ⟨b,o+i*7,none⟩=some (.int .i64 (L.getD i rl0).kind)∧w.cell? ⟨b,o+i*7+1,none⟩=some (.int .i64 (L.getD i rl0).roles)∧w.cell? ⟨b,o+i*7+2,none⟩=some (.int .i64 (L.getD i rl0).lo)∧w.cell? ⟨b,o+i*7+3,none⟩=some (.int .i64 (L.getD i rl0).hi)∧w.cell? ⟨b,o+i*7+4,none⟩=some (.int .i64 (L.getD i rl0).labels)∧w.cell? ⟨b,o+i*7+5,none⟩=some (.slice (P i).1 (L.getD i rl0).boxes.length (P i).2)∧w.cell? ⟨b,o+i*7+6,none⟩=some (.int .i64 (L.getD i rl0).zoom)
 bx:∀ i,i < L.length→Bxs w B (P i).1 (L.getD i rl0).boxes
 cap:∀ i,i < L.length→(L.getD i rl0).boxes.length≤(P i).2∧(P i).2≤9223372036854775807
theorem Rls.keep {w w':World} {B:Nat} {A:Option Addr} {L:List Rl} {P:Nat→Option Addr × Nat} (h:Rls w B A L P) (hb:Below B w w'):Rls w' B A L P:=by
 refine ⟨fun hn=>?_,fun i hi=>(h.bx i hi).keep hb,h.cap⟩
 obtain ⟨b,o,rfl,hlt,hc⟩:=h.at_ hn
 refine ⟨b,o,rfl,hlt,fun i hi=>?_⟩
 obtain ⟨h0,h1,h2,h3,h4,h5,h6⟩:=hc i hi
 have e:∀ j,w'.cell? ⟨b,j,none⟩=w.cell? ⟨b,j,none⟩:=fun j=>hb.cell (p:=⟨b,j,none⟩) hlt
 exact ⟨(e _).trans h0,(e _).trans h1,(e _).trans h2,(e _).trans h3,(e _).trans h4,(e _).trans h5,(e _).trans h6⟩
theorem Rls.more {w:World} {B B':Nat} {A:Option Addr} {L:List Rl} {P:Nat→Option Addr × Nat} (h:Rls w B A L P) (hb:B≤B'):Rls w B' A L P:=
 ⟨fun hn=>by
  obtain ⟨b,o,rfl,hlt,hc⟩:=h.at_ hn
  exact ⟨b,o,rfl,Nat.lt_of_lt_of_le hlt hb,hc⟩,fun i hi=>(h.bx i hi).more hb,h.cap⟩
theorem getR_lt {L:List Rl} {i:Nat} (h:i < L.length):L.getD i rl0=L[i]:=by simp [List.getD,List.getElem?_eq_getElem h]
theorem getX_lt {L:List Bx} {i:Nat} (h:i < L.length):L.getD i bx0=L[i]:=by simp [List.getD,List.getElem?_eq_getElem h]
theorem small_any (n m:Int) (w:World):Calls Tryz.prog 130 #[.int .i64 n, .int .i64 m] w fun e w'=>e = .returned (.bool (smallB n m))∧Below w.heap.size w w':=by
 unfold smallB
 go_enter Tryz.func130,Tryz.ntmps130
 go_wp2
 all_goals
  go_ret
  exact ⟨ret_b (by first|(simp;omega)|simp_all|(simp_all;omega)),q9o⟩
theorem sin_any (s n:Int) (w:World) (h0:0≤s) (h1:s≤255) (h2:0≤n) (h3:n≤7):Calls Tryz.prog 134 #[.int .i64 s, .int .i64 n] w fun e w'=>e = .returned (.bool (inS s n))∧Below w.heap.size w w':=by
 obtain ⟨a,rfl⟩:∃ a:Nat,s=a:=⟨s.toNat,by omega⟩
 obtain ⟨b,rfl⟩:∃ b:Nat,n=b:=⟨n.toNat,by omega⟩
 go_enter Tryz.func134,Tryz.ntmps134
 go_wp2
 go_ret
 refine ⟨ret_b ?_,q9o⟩
 have e:(a:Int) / 2 ^ b=((a / 2 ^ b:Nat):Int):=by push_cast;rfl
 rw [e,i64_and_one _ (Nat.lt_of_le_of_lt (Nat.div_le_self _ _) (by omega))]
 unfold inS
 rw [Bool.eq_iff_iff]
 simp
 omega
theorem nums_any (a b c:Int) (w:World):Calls Tryz.prog 133 #[.int .i64 a, .int .i64 b, .int .i64 c] w fun e w'=>e = .returned (.bool (numsB a b c))∧Below w.heap.size w w':=by
 have p1:=small_any a 7
 have p2:=small_any b 7
 have p3:=small_any c 7
 unfold numsB
 obtain ⟨r1,h1⟩:∃ r,smallB a 7=r:=⟨_,rfl⟩
 obtain ⟨r2,h2⟩:∃ r,smallB b 7=r:=⟨_,rfl⟩
 obtain ⟨r3,h3⟩:∃ r,smallB c 7=r:=⟨_,rfl⟩
 rw [h1] at p1 ⊢
 rw [h2] at p2 ⊢
 rw [h3] at p3 ⊢
 have P1:=Lib.hid p1
 have P2:=Lib.hid p2
 have P3:=Lib.hid p3
 clear p1 p2 p3 h1 h2 h3
 cases r1 <;> cases r2 <;> cases r3 <;>
 ·go_enter Tryz.func133,Tryz.ntmps133
  go_wp2_with (first
   | (go_at_call 130;with_reducible refine (P1.out _).mono ?_;rintro e w' ⟨rfl,hb⟩;obtain ⟨X1,rfl,hl1,hm1⟩:=later _ hb (Nat.le_refl _);clear hb;(try simp only [q9A,q9B,q9D] at hm1 hl1))
   | (go_at_call 130;with_reducible refine (P2.out _).mono ?_;rintro e w' ⟨rfl,hb⟩;obtain ⟨X2,rfl,hl2,hm2⟩:=later _ hb (Nat.le_refl _);clear hb;(try simp only [q9A,q9B,q9D] at hm2 hl2))
   | (go_at_call 130;with_reducible refine (P3.out _).mono ?_;rintro e w' ⟨rfl,hb⟩;obtain ⟨X3,rfl,hl3,hm3⟩:=later _ hb (Nat.le_refl _);clear hb;(try simp only [q9A,q9B,q9D] at hm3 hl3)))
  go_ret
  exact ⟨rfl,q9o⟩
set_option maxHeartbeats 4000000 in
theorem boxes_any (n c:Nat) (A:Option Addr) (L:List Bx) (w:World) (h:Bxs w w.heap.size A L) (hn:L.length=n) (hn1:n≤9223372036854775806):
  Calls Tryz.prog 131 #[.slice A n c] w fun e w'=>e = .returned (.bool (L.all rightX))∧Below w.heap.size w w':=by
 have H:=Lib.hid h
 have HN:=Lib.hid hn
 obtain ⟨R,hR⟩:∃ R,L.all rightX=R:=⟨_,rfl⟩
 rw [hR]
 have HR:=Lib.hid hR
 have P1:=Lib.hid right_any
 clear h hn hR
 go_enter Tryz.func131,Tryz.ntmps131
 go_wp2
 go_loopw [7] (fun i wr=>∃ k:Nat,k≤n∧i = .int .i64 k∧Hid (∀ j,j < k→rightX (L.getD j bx0)=true)∧Below w.heap.size w wr) (fun i _=>n - (intOf i).toNat)
 case atStart=>exact ⟨0,Nat.zero_le _,rfl,fun j hj=>absurd hj (by omega),Below.refl _ _⟩
 case round=>
  obtain ⟨k,hk,rfl,hall,hb⟩:=hrel
  obtain ⟨X,rfl⟩:∃ X:Later w.heap.size w,wr=X.w:=⟨⟨wr,hb⟩,rfl⟩
  have hs:=X.is.size
  clear hb
  by_cases hlt:k < n
  ·have hkL:k < L.length:=by rw [HN.out];exact hlt
   obtain ⟨b,o,hA,hB,c0,c1,c2,c3⟩:=bxs_at H.out hkL
   subst hA
   have hno:rightX (L.getD k bx0)=false→R=false:=fun he=>by
    rw [← HR.out,Bool.eq_false_iff]
    intro h9
    have:=List.all_eq_true.1 h9 (L.getD k bx0) (by rw [getX_lt hkL];exact List.getElem_mem _)
    rw [he] at this
    cases this
   obtain ⟨x,hx⟩:∃ x,L.getD k bx0=x:=⟨_,rfl⟩
   rw [hx] at c0 c1 c2 c3 hno
   have p2:=right_any x.a x.b x.c x.d
   obtain ⟨d,hd⟩:∃ d,rightB x.a x.b x.c x.d=d:=⟨_,rfl⟩
   rw [hd] at p2
   have P2:=Lib.hid p2
   have HX:=Lib.hid (show L.getD k bx0=x∧rightX x=d from ⟨hx,hd⟩)
   clear p2 hd hx
   cases d with
   | true=>
    clear hno
    go_wp2_with (first
     | (go_at_call 32;with_reducible refine (P2.out _).mono ?_;rintro e w' ⟨rfl,hb⟩;obtain ⟨X1,rfl,hl1,hm1⟩:=later _ hb (Nat.le_refl _);clear hb;(try simp only [q9A,q9B,q9D] at hm1 hl1)))
    go_roundw
    case rel=>
     refine ⟨k+1,by omega,by go_num,fun j hj=>?_,q9o⟩
     by_cases hjk:j=k
     ·subst hjk;rw [HX.out.1,HX.out.2]
     ·exact hall.out j (by omega)
    case measure=>simp [intOf];omega
   | false=>
    obtain rfl:R=false:=hno HX.out.2
    clear hno
    go_wp2_with (first
     | (go_at_call 32;with_reducible refine (P2.out _).mono ?_;rintro e w' ⟨rfl,hb⟩;obtain ⟨X1,rfl,hl1,hm1⟩:=later _ hb (Nat.le_refl _);clear hb;(try simp only [q9A,q9B,q9D] at hm1 hl1)))
    go_ret
    exact ⟨rfl,q9o⟩
  ·obtain rfl:k=n:=by omega
   obtain rfl:R=true:=by
    rw [← HR.out,List.all_eq_true]
    intro x hx
    obtain ⟨j,hj,rfl⟩:=List.mem_iff_getElem.1 hx
    have:=hall.out j (by rw [← HN.out];exact hj)
    rwa [getX_lt hj] at this
   go_wp2
   go_ret
   exact ⟨rfl,q9o⟩
theorem rls_at {w:World} {B i:Nat} {A:Option Addr} {L:List Rl} {P:Nat→Option Addr × Nat} (h:Rls w B A L P) (hi:i < L.length):∃ b o,A=some ⟨b,o,none⟩∧b < B∧w.cell? ⟨b,o+i*7,none⟩=some (.int .i64 (L.getD i rl0).kind)∧w.cell? ⟨b,o+i*7+1,none⟩=some (.int .i64 (L.getD i rl0).roles)∧w.cell? ⟨b,o+i*7+2,none⟩=some (.int .i64 (L.getD i rl0).lo)∧w.cell? ⟨b,o+i*7+3,none⟩=some (.int .i64 (L.getD i rl0).hi)∧w.cell? ⟨b,o+i*7+4,none⟩=some (.int .i64 (L.getD i rl0).labels)∧w.cell? ⟨b,o+i*7+5,none⟩=some (.slice (P i).1 (L.getD i rl0).boxes.length (P i).2)∧w.cell? ⟨b,o+i*7+6,none⟩=some (.int .i64 (L.getD i rl0).zoom):=by
 obtain ⟨b,o,hA,hb,hc⟩:=h.at_ (by omega)
 exact ⟨b,o,hA,hb,hc i hi⟩
set_option maxHeartbeats 16000000 in
theorem rright_any (r:Rl) (n c:Nat) (A:Option Addr) (w:World) (h:Bxs w w.heap.size A r.boxes) (hn:r.boxes.length=n) (hn1:n≤9223372036854775806):
  Calls Tryz.prog 100 #[.agg #[.int .i64 r.kind, .int .i64 r.roles, .int .i64 r.lo, .int .i64 r.hi, .int .i64 r.labels, .slice A n c, .int .i64 r.zoom]] w fun e w'=>e = .returned (.bool (rightR r))∧Below w.heap.size w w':=by
 have p1:=small_any r.roles 255
 have p2:=small_any r.labels 255
 have p3:=small_any r.zoom 16
 have p4:=fun (Y:World) (hY:Below w.heap.size w Y)=>boxes_any n c A r.boxes Y (h.up hY hY.size) hn hn1
 unfold rightR
 rw [hn]
 clear h hn
 obtain ⟨kd,ro,lo,hi,la,bx,zo⟩:=r
 simp only at*
 obtain ⟨r1,h1⟩:∃ r,smallB ro 255=r:=⟨_,rfl⟩
 obtain ⟨r2,h2⟩:∃ r,smallB la 255=r:=⟨_,rfl⟩
 obtain ⟨r3,h3⟩:∃ r,smallB zo 16=r:=⟨_,rfl⟩
 obtain ⟨r4,h4⟩:∃ r,bx.all rightX=r:=⟨_,rfl⟩
 rw [h1] at p1 ⊢
 rw [h2] at p2 ⊢
 rw [h3] at p3 ⊢
 rw [h4] at p4 ⊢
 have P1:=Lib.hid p1
 have P2:=Lib.hid p2
 have P3:=Lib.hid p3
 have P4:=Lib.hid p4
 clear p1 p2 p3 p4 h1 h2 h3 h4
 by_cases k6:kd=6
 ·have e6:(kd == 6)=true:=by simp [k6]
  rw [if_pos k6]
  clear k6 P2 P3 P4
  cases r1 <;>
  ·go_enter Tryz.func100,Tryz.ntmps100
   go_wp2_with (first
    | (go_at_call 130;with_reducible refine (P1.out _).mono ?_;rintro e w' ⟨rfl,hb⟩;obtain ⟨X1,rfl,hl1,hm1⟩:=later _ hb (Nat.le_refl _);clear hb;(try simp only [q9A,q9B,q9D] at hm1 hl1))
)
   all_goals
    go_ret
    exact ⟨ret_b (by first|rfl|(simp_all;done)|(simp_all;omega)|(rw [Bool.eq_iff_iff];simp_all;done)|(rw [Bool.eq_iff_iff];simp_all;omega)),q9o⟩
 ·have e6:(kd == 6)=false:=by rw [beq_eq_false_iff_ne];exact k6
  rw [if_neg k6]
  clear k6
  by_cases k45:kd=4∨kd=5
  ·rw [if_pos k45]
   have hk:((kd == 4)=true)∨((kd == 4)=false∧(kd == 5)=true):=by
    rcases k45 with h|h
    ·left;simp [h]
    ·right;subst h;decide
   clear k45
   rcases hk with e4|⟨e4,e5⟩
   ·cases r1 <;> cases r2 <;> cases r3 <;> cases r4 <;>
    ·go_enter Tryz.func100,Tryz.ntmps100
     go_wp2_with (first
      | (go_at_call 130;with_reducible refine (P1.out _).mono ?_;rintro e w' ⟨rfl,hb⟩;obtain ⟨X1,rfl,hl1,hm1⟩:=later _ hb (Nat.le_refl _);clear hb;(try simp only [q9A,q9B,q9D] at hm1 hl1))
      | (go_at_call 130;with_reducible refine (P2.out _).mono ?_;rintro e w' ⟨rfl,hb⟩;obtain ⟨X2,rfl,hl2,hm2⟩:=later _ hb (Nat.le_refl _);clear hb;(try simp only [q9A,q9B,q9D] at hm2 hl2))
      | (go_at_call 130;with_reducible refine (P3.out _).mono ?_;rintro e w' ⟨rfl,hb⟩;obtain ⟨X3,rfl,hl3,hm3⟩:=later _ hb (Nat.le_refl _);clear hb;(try simp only [q9A,q9B,q9D] at hm3 hl3))
      | (go_at_call 131;with_reducible refine (P4.out _ ?_).mono ?_;(focus (exact q9o));rintro e w' ⟨rfl,hb⟩;obtain ⟨X4,rfl,hl4,hm4⟩:=later _ hb (Nat.le_refl _);clear hb;(try simp only [q9A,q9B,q9D] at hm4 hl4)))
     all_goals
      go_ret
      exact ⟨ret_b (by first|rfl|(simp_all;done)|(simp_all;omega)|(rw [Bool.eq_iff_iff];simp_all;done)|(rw [Bool.eq_iff_iff];simp_all;omega)),q9o⟩
   ·cases r1 <;> cases r2 <;> cases r3 <;> cases r4 <;>
    ·go_enter Tryz.func100,Tryz.ntmps100
     go_wp2_with (first
      | (go_at_call 130;with_reducible refine (P1.out _).mono ?_;rintro e w' ⟨rfl,hb⟩;obtain ⟨X1,rfl,hl1,hm1⟩:=later _ hb (Nat.le_refl _);clear hb;(try simp only [q9A,q9B,q9D] at hm1 hl1))
      | (go_at_call 130;with_reducible refine (P2.out _).mono ?_;rintro e w' ⟨rfl,hb⟩;obtain ⟨X2,rfl,hl2,hm2⟩:=later _ hb (Nat.le_refl _);clear hb;(try simp only [q9A,q9B,q9D] at hm2 hl2))
      | (go_at_call 130;with_reducible refine (P3.out _).mono ?_;rintro e w' ⟨rfl,hb⟩;obtain ⟨X3,rfl,hl3,hm3⟩:=later _ hb (Nat.le_refl _);clear hb;(try simp only [q9A,q9B,q9D] at hm3 hl3))
      | (go_at_call 131;with_reducible refine (P4.out _ ?_).mono ?_;(focus (exact q9o));rintro e w' ⟨rfl,hb⟩;obtain ⟨X4,rfl,hl4,hm4⟩:=later _ hb (Nat.le_refl _);clear hb;(try simp only [q9A,q9B,q9D] at hm4 hl4)))
     all_goals
      go_ret
      exact ⟨ret_b (by first|rfl|(simp_all;done)|(simp_all;omega)|(rw [Bool.eq_iff_iff];simp_all;done)|(rw [Bool.eq_iff_iff];simp_all;omega)),q9o⟩
  ·rw [if_neg k45]
   have e4:(kd == 4)=false:=by rw [beq_eq_false_iff_ne];exact fun h=>k45 (.inl h)
   have e5:(kd == 5)=false:=by rw [beq_eq_false_iff_ne];exact fun h=>k45 (.inr h)
   clear k45 P1 P2 P3 P4
   go_enter Tryz.func100,Tryz.ntmps100
   go_wp2
   go_ret
   exact ⟨rfl,q9o⟩
end Go.Proofs.YthlijfligikciaaGreat
