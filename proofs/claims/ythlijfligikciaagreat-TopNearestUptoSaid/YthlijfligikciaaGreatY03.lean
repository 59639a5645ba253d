/- A part of one proof: TpZ Shp Bytes App TpS TpE. No condition. -/
import Derived.Test.YthlijfligikciaaGreatY02
import Derived.Shelf.Sort.Plain
import Derived.Ground.Names2Prog
import Derived.Shelf.Slices.CompactI
import Derived.Shelf.Slices.In.SortNone
import Derived.Test.YthlijfligikciaaGreatProg
import Derived.Test.YthlijfligikciaaGreatY01
import Derived.OwnWalk
import Derived.Laws.AppendOwn
import Derived.Laws.OwnMore
import Derived.Deep.AppendLies
import Derived.Maps.AppendAt
import Derived.Sort.OwnSortedInts
import Derived.Lib.RowBridge
import Derived.BigQuiet
namespace Go.Proofs.YthlijfligikciaaGreat
open Go.RowKit
set_option linter.unusedSimpArgs false
set_option linter.unusedVariables false
set_option maxRecDepth 2000
set_option maxHeartbeats 8000000 in
theorem rulesRight_any (n c:Nat) (A:Option Addr) (L:List Rl) (P:Nat→Option Addr × Nat) (w:World) (h:Rls w w.heap.size A L P) (hn:L.length=n) (hn1:n≤9223372036854775806) (hbx:∀ i,i < n→(L.getD i rl0).boxes.length≤9223372036854775806):
  Calls Tryz.prog 55 #[.slice A n c] w fun e w'=>e = .returned (.bool (L.all rightR))∧Below w.heap.size w w':=by
 have H:=Lib.hid h
 have HN:=Lib.hid hn
 have HB:=Lib.hid hbx
 obtain ⟨R,hR⟩:∃ R,L.all rightR=R:=⟨_,rfl⟩
 rw [hR]
 have HR:=Lib.hid hR
 clear h hn hR hbx
 go_enter Tryz.func55,Tryz.ntmps55
 go_wp2
 go_loopw [7] (fun i wr=>∃ k:Nat,k≤n∧i = .int .i64 k∧Hid (∀ j,j < k→rightR (L.getD j rl0)=true)∧Below w.heap.size w wr) (fun i _=>n - (intOf i).toNat)
 case atStart=>exact ⟨0,Nat.zero_le _,rfl,fun j hj=>absurd hj (by omega),Below.refl _ _⟩
 case round=>
  obtain ⟨k,hk,rfl,hall,hb⟩:=hrel
  obtain ⟨X,rfl⟩:∃ X:Later w.heap.size w,wr=X.w:=⟨⟨wr,hb⟩,rfl⟩
  have hs:=X.is.size
  clear hb
  by_cases hlt:k < n
  ·have hkL:k < L.length:=by rw [HN.out];exact hlt
   obtain ⟨b,o,hA,hB,c0,c1,c2,c3,c4,c5,c6⟩:=rls_at H.out hkL
   subst hA
   have hbx:=HB.out k hlt
   have hbs:=H.out.bx k hkL
   have hno:rightR (L.getD k rl0)=false→R=false:=fun he=>by
    rw [← HR.out,Bool.eq_false_iff]
    intro h9
    have:=List.all_eq_true.1 h9 (L.getD k rl0) (by rw [getR_lt hkL];exact List.getElem_mem _)
    rw [he] at this
    cases this
   obtain ⟨A1,cc1,hP⟩:∃ A1 cc1,P k=(A1,cc1):=⟨_,_,rfl⟩
   rw [hP] at c5 hbs
   obtain ⟨x,hx⟩:∃ x,L.getD k rl0=x:=⟨_,rfl⟩
   rw [hx] at c0 c1 c2 c3 c4 c5 c6 hno hbx hbs
   obtain ⟨m,hm⟩:∃ m,x.boxes.length=m:=⟨_,rfl⟩
   rw [hm] at c5 hbx
   have p2:=fun (Y:World) (hY:Below w.heap.size w Y)=>rright_any x m cc1 A1 Y (hbs.up hY hY.size) hm hbx
   obtain ⟨d,hd⟩:∃ d,rightR x=d:=⟨_,rfl⟩
   rw [hd] at p2
   have P2:=Lib.hid p2
   have HX:=Lib.hid (show L.getD k rl0=x∧rightR x=d from ⟨hx,hd⟩)
   clear p2 hd hx hm hbs hP
   cases d with
   | true=>
    clear hno
    go_wp2_with (first
     | (go_at_call 100;with_reducible refine (P2.out _ ?_).mono ?_;(focus (exact q9o));rintro e w' ⟨rfl,hb⟩;obtain ⟨X1,rfl,hl1,hm1⟩:=later _ hb (Nat.le_refl _);clear hb;(try simp only [q9A,q9B,q9D] at hm1 hl1)))
    go_roundw
    case rel=>
     refine ⟨k+1,by omega,by go_num,fun j hj=>?_,q9o⟩
     by_cases hjk:j=k
     ·subst hjk;rw [HX.out.1,HX.out.2]
     ·exact hall.out j (by omega)
    case measure=>simp [intOf];omega
   | false=>
    obtain rfl:R=false:=hno HX.out.2
    clear hno
    go_wp2_with (first
     | (go_at_call 100;with_reducible refine (P2.out _ ?_).mono ?_;(focus (exact q9o));rintro e w' ⟨rfl,hb⟩;obtain ⟨X1,rfl,hl1,hm1⟩:=later _ hb (Nat.le_refl _);clear hb;(try simp only [q9A,q9B,q9D] at hm1 hl1)))
    go_ret
    exact ⟨rfl,q9o⟩
  ·obtain rfl:k=n:=by omega
   obtain rfl:R=true:=by
    rw [← HR.out,List.all_eq_true]
    intro x hx
    obtain ⟨j,hj,rfl⟩:=List.mem_iff_getElem.1 hx
    have:=hall.out j (by rw [← HN.out];exact hj)
    rwa [getR_lt hj] at this
   go_wp2
   go_ret
   exact ⟨rfl,q9o⟩
set_option maxHeartbeats 16000000 in
theorem rfor_any (r:Rl) (n c:Nat) (A:Option Addr) (x y z:Int) (w:World) (h:Bxs w w.heap.size A r.boxes) (hn:r.boxes.length=n) (hn1:n≤9223372036854775806):
  Calls Tryz.prog 106 #[.agg #[.int .i64 r.kind, .int .i64 r.roles, .int .i64 r.lo, .int .i64 r.hi, .int .i64 r.labels, .slice A n c, .int .i64 r.zoom], .int .i64 x, .int .i64 y, .int .i64 z] w fun e w'=>e = .returned (.bool (forR r x y z))∧Below w.heap.size w w':=by
 have p1:=fun (Y:World) (hY:Below w.heap.size w Y)=>rright_any r n c A Y (h.up hY hY.size) hn hn1
 have p2:=nums_any x y z
 have hE:forR r x y z=(rightR r && decide (r.kind≠6) && numsB x y z && inS r.roles x && decide (r.lo≤y) && decide (y≤r.hi) && inS r.labels z):=rfl
 have hro:=@rightR_roles r
 have hla:=@rightR_labels r
 obtain ⟨r1,h1⟩:∃ q,rightR r=q:=⟨_,rfl⟩
 rw [h1] at p1 hE hro hla
 have hnums:numsB x y z=true→0≤x∧x≤7∧0≤z∧z≤7:=fun h=>by
  unfold numsB smallB at h
  simp at h
  omega
 obtain ⟨r2,h2⟩:∃ q,numsB x y z=q:=⟨_,rfl⟩
 rw [h2] at p2 hE hnums
 have P1:=Lib.hid p1
 have P2:=Lib.hid p2
 rw [hE]
 clear p1 p2 h1 h2 hE h hn
 cases r1 with
 | false=>
  clear hro hla hnums P2
  go_enter Tryz.func106,Tryz.ntmps106
  go_wp2_with (first
   | (go_at_call 100;with_reducible refine (P1.out _ ?_).mono ?_;(focus (exact q9o));rintro e w' ⟨rfl,hb⟩;obtain ⟨X1,rfl,hl1,hm1⟩:=later _ hb (Nat.le_refl _);clear hb;(try simp only [q9A,q9B,q9D] at hm1 hl1)))
  go_ret
  exact ⟨rfl,q9o⟩
 | true=>
  obtain ⟨g1,g2⟩:=hro rfl
  obtain ⟨g3,g4⟩:=hla rfl
  by_cases k6:r.kind=6
  ·have e6:(r.kind != 6)=false:=by simp [k6]
   rw [show decide (r.kind≠6)=false by simp [k6]]
   clear hnums hro hla P2 k6
   go_enter Tryz.func106,Tryz.ntmps106
   go_wp2_with (first
    | (go_at_call 100;with_reducible refine (P1.out _ ?_).mono ?_;(focus (exact q9o));rintro e w' ⟨rfl,hb⟩;obtain ⟨X1,rfl,hl1,hm1⟩:=later _ hb (Nat.le_refl _);clear hb;(try simp only [q9A,q9B,q9D] at hm1 hl1)))
   go_ret
   exact ⟨rfl,q9o⟩
  ·have e6:(r.kind != 6)=true:=by simpa using k6
   rw [show decide (r.kind≠6)=true by simpa using k6]
   clear hro hla k6
   cases r2 with
   | false=>
    clear hnums
    go_enter Tryz.func106,Tryz.ntmps106
    go_wp2_with (first
     | (go_at_call 100;with_reducible refine (P1.out _ ?_).mono ?_;(focus (exact q9o));rintro e w' ⟨rfl,hb⟩;obtain ⟨X1,rfl,hl1,hm1⟩:=later _ hb (Nat.le_refl _);clear hb;(try simp only [q9A,q9B,q9D] at hm1 hl1))
     | (go_at_call 133;with_reducible refine (P2.out _).mono ?_;rintro e w' ⟨rfl,hb⟩;obtain ⟨X2,rfl,hl2,hm2⟩:=later _ hb (Nat.le_refl _);clear hb;(try simp only [q9A,q9B,q9D] at hm2 hl2)))
    go_ret
    exact ⟨rfl,q9o⟩
   | true=>
    obtain ⟨b1,b2,b3,b4⟩:=hnums rfl
    have p3:=fun Y=>sin_any r.roles x Y g1 g2 b1 b2
    have p4:=fun Y=>sin_any r.labels z Y g3 g4 b3 b4
    obtain ⟨r3,h3⟩:∃ q,inS r.roles x=q:=⟨_,rfl⟩
    obtain ⟨r4,h4⟩:∃ q,inS r.labels z=q:=⟨_,rfl⟩
    rw [h3] at p3 ⊢
    rw [h4] at p4 ⊢
    have P3:=Lib.hid p3
    have P4:=Lib.hid p4
    clear p3 p4 h3 h4 hnums
    obtain ⟨q1,hq1⟩:∃ q,decide (r.lo≤y)=q:=⟨_,rfl⟩
    obtain ⟨q2,hq2⟩:∃ q,decide (y≤r.hi)=q:=⟨_,rfl⟩
    rw [hq1,hq2]
    cases r3 <;> cases r4 <;> cases q1 <;> cases q2 <;>
    ·go_enter Tryz.func106,Tryz.ntmps106
     go_wp2_with (first
      | (go_at_call 100;with_reducible refine (P1.out _ ?_).mono ?_;(focus (exact q9o));rintro e w' ⟨rfl,hb⟩;obtain ⟨X1,rfl,hl1,hm1⟩:=later _ hb (Nat.le_refl _);clear hb;(try simp only [q9A,q9B,q9D] at hm1 hl1))
      | (go_at_call 133;with_reducible refine (P2.out _).mono ?_;rintro e w' ⟨rfl,hb⟩;obtain ⟨X2,rfl,hl2,hm2⟩:=later _ hb (Nat.le_refl _);clear hb;(try simp only [q9A,q9B,q9D] at hm2 hl2))
      | (go_at_call 134;with_reducible refine (P3.out _).mono ?_;rintro e w' ⟨rfl,hb⟩;obtain ⟨X3,rfl,hl3,hm3⟩:=later _ hb (Nat.le_refl _);clear hb;(try simp only [q9A,q9B,q9D] at hm3 hl3))
      | (go_at_call 134;with_reducible refine (P4.out _).mono ?_;rintro e w' ⟨rfl,hb⟩;obtain ⟨X4,rfl,hl4,hm4⟩:=later _ hb (Nat.le_refl _);clear hb;(try simp only [q9A,q9B,q9D] at hm4 hl4)))
     go_ret
     exact ⟨rfl,q9o⟩
theorem takeR_snoc {L:List Rl} {i:Nat} (h:i < L.length):L.take (i+1)=L.take i ++ [L.getD i rl0]:=by
 rw [List.take_succ_eq_append_getElem h]
 simp [List.getD,List.getElem?_eq_getElem h]
theorem mine_snoc {L:List Rl} {i:Nat} (h:i < L.length) (a b c:Int):mineR (L.take (i+1)) a b c=mineR (L.take i) a b c ++ if forR (L.getD i rl0) a b c=true then [L.getD i rl0] else []:=by
 unfold mineR
 rw [takeR_snoc h,List.filter_append]
 congr 1
 by_cases hf:forR (L.getD i rl0) a b c=true
 ·rw [if_pos hf,List.filter_cons_of_pos (p:=fun r=>forR r a b c) hf];rfl
 ·rw [if_neg hf,List.filter_cons_of_neg (p:=fun r=>forR r a b c) hf];rfl
end Go.Proofs.YthlijfligikciaaGreat
namespace Go.Proofs
open Go.Shelf
def Tryz.lays189_ren:Go.Shelf.Ren:=⟨fun|189=>114|125=>146|257=>145|128=>165|129=>166|294=>156|295=>157|296=>158|297=>159|298=>160|299=>161|216=>162|300=>163|301=>164|328=>187|329=>188|330=>189|331=>190|332=>191|215=>192|343=>200|n=>n,fun|28=>112|3=>3|46=>245|0=>0|51=>272|53=>99|4=>4|183=>265|182=>264|131=>269|5=>5|9=>9|218=>286|222=>290|228=>297|229=>150|n=>n,fun|n=>n⟩
theorem Tryz.lays189:Go.Proofs.Lays.n189 Tryz.prog Tryz.lays189_ren:={
 mixed:=by kernel_rfl
 f125:=Tryz.func146.trans (congrArg some (by kernel_rfl))
 f128:=Tryz.func165.trans (congrArg some (by kernel_rfl))
 f129:=Tryz.func166.trans (congrArg some (by kernel_rfl))
 f189:=Tryz.func114.trans (congrArg some (by kernel_rfl))
 f215:=Tryz.func192.trans (congrArg some (by kernel_rfl))
 f216:=Tryz.func162.trans (congrArg some (by kernel_rfl))
 f257:=Tryz.func145.trans (congrArg some (by kernel_rfl))
 f294:=Tryz.func156.trans (congrArg some (by kernel_rfl))
 f295:=Tryz.func157.trans (congrArg some (by kernel_rfl))
 f296:=Tryz.func158.trans (congrArg some (by kernel_rfl))
 f297:=Tryz.func159.trans (congrArg some (by kernel_rfl))
 f298:=Tryz.func160.trans (congrArg some (by kernel_rfl))
 f299:=Tryz.func161.trans (congrArg some (by kernel_rfl))
 f300:=Tryz.func163.trans (congrArg some (by kernel_rfl))
 f301:=Tryz.func164.trans (congrArg some (by kernel_rfl))
 f328:=Tryz.func187.trans (congrArg some (by kernel_rfl))
 f329:=Tryz.func188.trans (congrArg some (by kernel_rfl))
 f330:=Tryz.func189.trans (congrArg some (by kernel_rfl))
 f331:=Tryz.func190.trans (congrArg some (by kernel_rfl))
 f332:=Tryz.func191.trans (congrArg some (by kernel_rfl))
 f343:=Tryz.func200.trans (congrArg some (by kernel_rfl))
 t0:=Tryz.underlying0
 a0:=Tryz.isAgg0
 z0:=Tryz.sizeOf0
 v0:=Tryz.zeroValue0
 t3:=Tryz.underlying3
 a3:=Tryz.isAgg3
 z3:=Tryz.sizeOf3
 v3:=Tryz.zeroValue3
 t4:=Tryz.underlying4
 a4:=Tryz.isAgg4
 z4:=Tryz.sizeOf4
 v4:=Tryz.zeroValue4
 t5:=Tryz.underlying5
 a5:=Tryz.isAgg5
 z5:=Tryz.sizeOf5
 v5:=Tryz.zeroValue5
 t9:=Tryz.underlying9
 a9:=Tryz.isAgg9
 z9:=Tryz.sizeOf9
 v9:=Tryz.zeroValue9
 t28:=Tryz.underlying112
 a28:=Tryz.isAgg112
 z28:=Tryz.sizeOf112
 v28:=Tryz.zeroValue112
 t46:=Tryz.underlying245
 a46:=Tryz.isAgg245
 z46:=Tryz.sizeOf245
 v46:=Tryz.zeroValue245
 t51:=Tryz.underlying272
 a51:=Tryz.isAgg272
 z51:=Tryz.sizeOf272
 v51:=Tryz.zeroValue272
 t53:=Tryz.underlying99
 a53:=Tryz.isAgg99
 z53:=Tryz.sizeOf99
 v53:=Tryz.zeroValue99
 t131:=Tryz.underlying269
 a131:=Tryz.isAgg269
 z131:=Tryz.sizeOf269
 v131:=Tryz.zeroValue269
 t182:=Tryz.underlying264
 a182:=Tryz.isAgg264
 z182:=Tryz.sizeOf264
 v182:=Tryz.zeroValue264
 t183:=Tryz.underlying265
 a183:=Tryz.isAgg265
 z183:=Tryz.sizeOf265
 v183:=Tryz.zeroValue265
 t218:=Tryz.underlying286
 a218:=Tryz.isAgg286
 z218:=Tryz.sizeOf286
 v218:=Tryz.zeroValue286
 t222:=Tryz.underlying290
 a222:=Tryz.isAgg290
 z222:=Tryz.sizeOf290
 v222:=Tryz.zeroValue290
 t228:=Tryz.underlying297
 a228:=Tryz.isAgg297
 z228:=Tryz.sizeOf297
 v228:=Tryz.zeroValue297
 t229:=Tryz.underlying150
 a229:=Tryz.isAgg150
 z229:=Tryz.sizeOf150
 v229:=Tryz.zeroValue150 }
open Go.Sort Go.RowKit in
theorem Tryz.slices_Sort_int (blk off cap:Nat) (zs:List Int) (w:World) (hH:Holds (Value.int .i64) w blk off zs.toArray) (hblk:blk < w.heap.size) (hsz:zs.length < 4611686018427387904):
  Calls Tryz.prog 114 #[.slice (some ⟨blk,off,none⟩) zs.length cap] w fun e w'=>
   e = .returned (.tuple #[])∧∃ n os,w'=grow (putRow (Value.int .i64) (Sort.ahead w n) blk off (zs.mergeSort fun x y=>decide (x≤y)).toArray) os:=Any.slices_Sort_int Tryz.lays189 blk off cap zs w hH hblk hsz
def Tryz.laysNm220_ren:Go.Shelf.Ren:=⟨fun|20=>115|n=>n,fun|22=>112|3=>3|4=>4|0=>0|n=>n,fun|n=>n⟩
theorem Tryz.laysNm220:Go.Proofs.Lays2.n20 Tryz.prog Tryz.laysNm220_ren:={
 mixed:=by kernel_rfl
 f20:=Tryz.func115.trans (congrArg some (by kernel_rfl))
 t0:=Tryz.underlying0
 a0:=Tryz.isAgg0
 z0:=Tryz.sizeOf0
 v0:=Tryz.zeroValue0
 t3:=Tryz.underlying3
 a3:=Tryz.isAgg3
 z3:=Tryz.sizeOf3
 v3:=Tryz.zeroValue3
 t4:=Tryz.underlying4
 a4:=Tryz.isAgg4
 z4:=Tryz.sizeOf4
 v4:=Tryz.zeroValue4
 t22:=Tryz.underlying112
 a22:=Tryz.isAgg112
 z22:=Tryz.sizeOf112
 v22:=Tryz.zeroValue112
 i3:=by kernel_rfl }
open Go.RowKit Go.Lib Go.Sort in
theorem Tryz.slices_Compact_int (blk off cap:Nat) (zs:List Int) (w:World) (hH:Holds (Value.int .i64) w blk off zs.toArray) (hsz:zs.length≤9223372036854775807) (hcap:zs.length≤cap):
  Calls Tryz.prog 115 #[.slice (some ⟨blk,off,none⟩) zs.length cap] w fun e w'=>e = .returned (.slice (some ⟨blk,off,none⟩) (Lib.compact zs).length cap)∧∃ q,w'=putRow (Value.int .i64) (Sort.ahead w q) blk off (Lib.compact zs ++ List.replicate (zs.length - (Lib.compact zs).length) 0).toArray:=Any.slices_Compact_int Tryz.laysNm220 blk off cap zs w hH hsz hcap
open Go.RowKit Go.Lib Go.Sort in
theorem Tryz.slices_Compact_int_empty (a:Option Addr) (cap:Nat) (w:World):
  Calls Tryz.prog 115 #[.slice a 0 cap] w fun e w'=>e = .returned (.slice a 0 cap)∧w'=w:=Any.slices_Compact_int_empty Tryz.laysNm220 a cap w
open Go.RowKit Go.Sort in
theorem Tryz.slices_Sort_int_none (p:Option Addr) (cap:Nat) (w:World):
  Calls Tryz.prog 114 #[.slice p 0 cap] w fun e w'=>e = .returned (.tuple #[])∧w'=w:=Any.slices_Sort_int_none Tryz.lays189 p cap w
end Go.Proofs
namespace Go.Proofs.YthlijfligikciaaGreat
set_option linter.unusedSimpArgs false
set_option linter.unusedVariables false
open Go.RowKit
theorem bel_drewN {B:Nat} {a w:World} (h:Below B a w) (n:Nat):Below B a (w.drewN n):=h.trans ⟨rfl,rfl,rfl,Nat.le_refl _,fun _ _=>rfl⟩
theorem bel_grown {B:Nat} {a w w':World} {row:Option Nat} (h:Below B a w) (hg:w.grownBy w' row) (hB:B≤w.heap.size) (hr:∀ k,row=some k→B≤k):Below B a w':=h.grown hg hB hr
theorem eq_e {a b:Int} (h:(a == b)=true):a=b:=by simpa using h
def Reads (k:IntKind) (w:World) (B:Nat) (A:Option Addr) (n:Nat) (f:Nat→Int):Prop:=
 0 < n→∃ b o,A=some ⟨b,o,none⟩∧b < B∧∀ j,j < n→w.cell? ⟨b,o+j,none⟩=some (.int k (f j))
section
variable {k:IntKind} {w w' W:World} {B C n:Nat} {A:Option Addr} {f:Nat→Int}
theorem Reads.nil (k:IntKind) (w:World) (B:Nat) (A:Option Addr) (f:Nat→Int):Reads k w B A 0 f:=fun h=>absurd h (by simp)
theorem Reads.keep (h:Reads k w B A n f) (hb:Below B w w'):Reads k w' B A n f:=fun hl=>by
 obtain ⟨b,o,e,hB,hc⟩:=h hl
 exact ⟨b,o,e,hB,fun j hj=>(hb.cell (p:=⟨b,o+j,none⟩) hB).trans (hc j hj)⟩
theorem Reads.more (h:Reads k w B A n f) (hB:B≤C):Reads k w C A n f:=fun hl=>by
 obtain ⟨b,o,e,hb,hc⟩:=h hl
 exact ⟨b,o,e,Nat.lt_of_lt_of_le hb hB,hc⟩
theorem Reads.same {g:Nat→Int} (h:Reads k w B A n f) (e:∀ j,j < n→f j=g j):Reads k w B A n g:=fun hl=>by
 obtain ⟨b,o,hA,hB,hc⟩:=h hl
 exact ⟨b,o,hA,hB,fun j hj=>by rw [hc j hj,e j hj]⟩
theorem Reads.of_own {base:Nat} {e:TypeId} {c:Nat} {xs:List Value} (h:w.ownsRow base e 1 (.slice A n c) n xs)
  (hx:∀ j,j < n→xs[j]? = some (.int k (f j))):Reads k w w.heap.size A n f:=by
 intro hn
 obtain ⟨g,cap,hv,_,hlt⟩:=h.form hn
 have hA:A=some ⟨g,0,none⟩:=by injection hv
 subst hA
 refine ⟨g,0,rfl,hlt,fun j hj=>?_⟩
 rw [Nat.zero_add,h.cellAt j (by omega)]
 exact hx j hj
def rowV (k:IntKind) (n:Nat) (f:Nat→Int):List Value:=(List.range n).map fun j => .int k (f j)
theorem rowV_get {j:Nat} (h:j < n):(rowV k n f)[j]? = some (.int k (f j)):=by simp [rowV,h]
theorem Reads.own {base:Nat} {e:TypeId} {c:Nat} (h:w.ownsRow base e 1 (.slice A n c) n (rowV k n f)):Reads k w w.heap.size A n f:=Reads.of_own h (fun j hj=>rowV_get hj)
end
theorem q9n {B:Nat} {a w:World} (h:Below B a w) (n:Nat):Below B a (w.drewN n):=bel_drewN h n
theorem q9g {B:Nat} {a w w':World} {row:Option Nat} (h:Below B a w) (hg:w.grownBy w' row) (hB:B≤w.heap.size) (hr:∀ k,row=some k→B≤k):Below B a w':=bel_grown h hg hB hr
theorem q9l {B:Nat} {a b:World} (h:Below B a b:=by repeat' first|(with_reducible first|exact q9r _ _|assumption|refine q9s ?_ ?_ _|refine q9a ?_ ?_ _|refine q9d ?_|refine q9n ?_ _|refine q9g ?_ (by assumption) ?_ ?_|refine q9c ?_ ?_ _)|go_size):Below B a b:=h
end Go.Proofs.YthlijfligikciaaGreat
namespace Go.Proofs.YthlijfligikciaaGreat
open Go.RowKit
set_option linter.unusedSimpArgs false
set_option linter.unusedVariables false
section
variable {w w':World} {base:Nat} {e:TypeId} {size n:Nat} {v:Value} {xs:List Value}
theorem own_keep (h:w.ownsRow base e size v n xs) (hb:Below w.heap.size w w'):w'.ownsRow base e size v n xs:=by
 refine ⟨h.1,?_⟩
 rcases h.2 with hn|⟨g,cap,cur,rfl,hbase,hg,rest⟩
 ·exact .inl hn
 ·have hlt:g < w.heap.size:=by
   rcases Nat.lt_or_ge g w.heap.size with hlt|hge
   ·exact hlt
   ·rw [Array.getElem?_eq_none hge] at hg;cases hg
  exact .inr ⟨g,cap,cur,rfl,hbase,(hb.block g hlt).trans hg,rest⟩
theorem own_set (h:w.ownsRow base e size v n xs) {p:Addr} (hp:p.block < base) (u:Value):(w.setCell p u).ownsRow base e size v n xs:=by
 refine ⟨h.1,?_⟩
 rcases h.2 with hn|⟨g,cap,cur,rfl,hbase,hg,rest⟩
 ·exact .inl hn
 ·exact .inr ⟨g,cap,cur,rfl,hbase,(Below.heap_setCell w p u g (by omega)).trans hg,rest⟩
theorem own_base {b:Nat} (h:w.ownsRow base e size v n xs) (hb:b≤base):w.ownsRow b e size v n xs:=by
 refine ⟨h.1,?_⟩
 rcases h.2 with hn|⟨g,cap,cur,rfl,hbase,rest⟩
 ·exact .inl hn
 ·exact .inr ⟨g,cap,cur,rfl,Nat.le_trans hb hbase,rest⟩
theorem own_cap {A:Option Addr} {c:Nat} (h:w.ownsRow base e size (.slice A n c) n xs):n≤c∧c≤9223372036854775807:=by
 rcases h.2 with ⟨hv,rfl⟩|⟨g,cap,cur,hv,_,_,h1,h2,_⟩
 ·injection hv with _ _ h;exact ⟨by omega,by omega⟩
 ·injection hv with _ _ h;subst h;exact ⟨h1,h2⟩
end
theorem Reads.first {k:IntKind} {w:World} {B:Nat} {A:Option Addr} {n m:Nat} {f:Nat→Int} (h:Reads k w B A n f) (hm:m≤n):Reads k w B A m f:=fun hn=>by
 obtain ⟨b,o,rfl,hb,hc⟩:=h (by omega)
 exact ⟨b,o,rfl,hb,fun j hj=>hc j (by omega)⟩
end Go.Proofs.YthlijfligikciaaGreat
namespace Go.Proofs.YthlijfligikciaaGreat
open Go.RowKit
set_option linter.unusedSimpArgs false
set_option linter.unusedVariables false
set_option maxRecDepth 2000
def nC (L:List Int):List Value:=L.map (Value.int .i64)
def sortL (L:List Int):List Int:=L.mergeSort fun x y=>decide (x≤y)
theorem sortL_len (L:List Int):(sortL L).length=L.length:=by simp [sortL]
theorem sortL_mem {L:List Int} {x:Int}:x ∈ sortL L↔x ∈ L:=by simp [sortL]
theorem sortL_le (L:List Int):(sortL L).Pairwise (·≤·):=by
 have h:=List.pairwise_mergeSort (le:=fun x y:Int=>decide (x≤y)) (fun a b c=>by simp;omega) (fun a b=>by simp;omega) L
 exact h.imp fun h=>by simpa using h
theorem sort_own {base n c:Nat} {A:Option Addr} {L:List Int} {w:World} (h:w.ownsRow base 3 1 (.slice A n c) n (nC L)) (hl:n≤100000000000):
  Calls Tryz.prog 114 #[.slice A n c] w fun e w'=>e = .returned (.tuple #[])∧w'.ownsRow base 3 1 (.slice A n c) n (nC (sortL L))∧w.grownBy w' (Value.slice A n c).ownBlock:=by
 have hlen:L.length=n:=by have:=h.1;simpa [nC] using this
 rcases h.2 with ⟨hv,hn⟩|⟨g,cap,cur,hv,hb,hg,h1,h2,h3,h4⟩
 ·injection hv with e1 e2 e3
  subst e1 e2 e3
  obtain rfl:L=[]:=List.eq_nil_of_length_eq_zero hlen
  refine (Tryz.slices_Sort_int_none none 0 w).mono ?_
  rintro e w' ⟨rfl,rfl⟩
  exact ⟨rfl,by simpa [sortL] using h,World.grownBy.refl _ _⟩
 ·injection hv with e1 e2 e3
  subst e1 e3
  subst hlen
  have hH:Go.Sort.Holds (Value.int .i64) w g 0 L.toArray:=holds_of_blockI hg (by simpa [nC] using h4)
  refine (Tryz.slices_Sort_int g 0 c L w hH (Array.getElem?_eq_some_iff.1 hg).1 (by omega)).mono ?_
  rintro e w' ⟨rfl,m,os,rfl⟩
  exact ⟨rfl,ownsRow_sortedI (by simp) hb hg h1 h2 h3,grownBy_sortedI _⟩
theorem compact_len (L:List Int):(Lib.compact L).length≤L.length:=Lib.compact_length_le L
theorem compact_own {base n c:Nat} {A:Option Addr} {L:List Int} {w:World} (h:w.ownsRow base 3 1 (.slice A n c) n (nC L)) (hl:n≤100000000000):
  Calls Tryz.prog 115 #[.slice A n c] w fun e w'=>e = .returned (.slice A (Lib.compact L).length c)∧w'.ownsRow base 3 1 (.slice A (Lib.compact L).length c) (Lib.compact L).length (nC (Lib.compact L))∧w.grownBy w' (Value.slice A n c).ownBlock:=by
 have hlen:L.length=n:=by have:=h.1;simpa [nC] using this
 rcases h.2 with ⟨hv,hn⟩|⟨g,cap,cur,hv,hb,hg,h1,h2,h3,h4⟩
 ·injection hv with e1 e2 e3
  subst e1 e2 e3
  obtain rfl:L=[]:=List.eq_nil_of_length_eq_zero hlen
  refine (Tryz.slices_Compact_int_empty none 0 w).mono ?_
  rintro e w' ⟨rfl,rfl⟩
  exact ⟨rfl,h,World.grownBy.refl _ _⟩
 ·injection hv with e1 e2 e3
  subst e1 e3
  subst hlen
  have hH:Go.Sort.Holds (Value.int .i64) w g 0 L.toArray:=holds_of_blockI hg (by simpa [nC] using h4)
  have hc:=compact_len L
  refine (Tryz.slices_Compact_int g 0 c L w hH (by omega) h1).mono ?_
  rintro e w' ⟨rfl,m,rfl⟩
  have e0:∀ d:Array Int,Go.Sort.putRow (Value.int .i64) (Sort.ahead w m) g 0 d=Go.Sort.grow (Go.Sort.putRow (Value.int .i64) (Sort.ahead w m) g 0 d) #[]:=fun d=>(Go.Sort.grow_empty _).symm
  rw [e0]
  refine ⟨rfl,⟨by simp [nC], .inr ⟨g,c,_,rfl,hb,heap_sortedI _ hg,by omega,h2,by simp [Go.Sort.putCells,h3],?_⟩⟩,grownBy_sortedI _⟩
  have h5:=take_putCellsI cur (Lib.compact L ++ List.replicate (L.length - (Lib.compact L).length) 0) (by simp;omega)
  have h6:=congrArg (List.take (Lib.compact L).length) h5
  rw [List.take_take,List.map_append,List.take_append_of_le_length (by simp)] at h6
  rw [show min (Lib.compact L).length (Lib.compact L ++ List.replicate (L.length - (Lib.compact L).length) (0:Int)).length=(Lib.compact L).length by simp] at h6
  rw [Nat.mul_one,h6]
  exact List.take_of_length_le (by simp)
theorem compact_facts {L:List Int} (h:L.Pairwise (·≤·)):(∀ x,x ∈ Lib.compact L↔x ∈ L)∧(Lib.compact L).Pairwise (· < ·):=by
 have hle:∀ i j,i≤j→j < L.length→L.getD i 0≤L.getD j 0:=fun i j hij hj=>by
  rcases Nat.lt_or_eq_of_le hij with hlt|rfl
  ·have:=List.pairwise_iff_getElem.1 h i j (by omega) hj hlt
   simpa [List.getD,List.getElem?_eq_getElem hj,List.getElem?_eq_getElem (show i < L.length by omega)] using this
  ·exact Int.le_refl _
 have hget:∀ j,j < L.length→L.toArray[j]! = L.getD j 0:=fun j hj=>by
  simp [List.getD,List.getElem?_eq_getElem hj]
 have key:∀ m,m≤L.length→(∀ x,x ∈ Lib.compactUpTo L.toArray m↔∃ j,j < m∧x=L.getD j 0)∧(Lib.compactUpTo L.toArray m).Pairwise (· < ·):=by
  intro m
  induction m with
  | zero=>intro _;exact ⟨fun x=>by simp [Lib.compactUpTo],by simp [Lib.compactUpTo]⟩
  | succ m ih=>
   intro hm
   obtain ⟨h1,h2⟩:=ih (by omega)
   rw [Lib.compactUpTo_succ]
   by_cases hk:Lib.keeps L.toArray m=true
   ·rw [if_pos hk,hget m (by omega)]
    refine ⟨fun x=>?_,?_⟩
    ·rw [List.mem_append,h1]
     constructor
     ·rintro (⟨j,hj,e⟩|e)
      ·exact ⟨j,by omega,e⟩
      ·exact ⟨m,by omega,by simpa using e⟩
     ·rintro ⟨j,hj,e⟩
      by_cases hjm:j=m
      ·subst hjm;exact .inr (by simp [e])
      ·exact .inl ⟨j,by omega,e⟩
    ·rw [List.pairwise_append]
     refine ⟨h2,by simp,fun a ha b hb=>?_⟩
     obtain rfl:b=L.getD m 0:=by simpa using hb
     obtain ⟨j,hj,rfl⟩:=(h1 a).1 ha
     have h3:m=0∨L.toArray[m]! ≠ L.toArray[m - 1]! := by simpa [Lib.keeps] using hk
     rcases h3 with h3|h3
     ·omega
     ·rw [hget m (by omega),hget (m - 1) (by omega)] at h3
      have h4:=hle j (m - 1) (by omega) (by omega)
      have h5:=hle (m - 1) m (by omega) (by omega)
      omega
   ·rw [if_neg hk,List.append_nil]
    refine ⟨fun x=>?_,h2⟩
    rw [h1]
    constructor
    ·rintro ⟨j,hj,e⟩;exact ⟨j,by omega,e⟩
    ·rintro ⟨j,hj,e⟩
     by_cases hjm:j=m
     ·subst hjm
      have h3:¬ (j=0∨L.toArray[j]! ≠ L.toArray[j - 1]!):=by simpa [Lib.keeps] using hk
      have h4:j≠0:=fun h=>h3 (.inl h)
      have h5:L.toArray[j]! = L.toArray[j - 1]! := Classical.byContradiction fun h=>h3 (.inr h)
      rw [hget j (by omega),hget (j - 1) (by omega)] at h5
      exact ⟨j - 1,by omega,by rw [e,h5]⟩
     ·exact ⟨j,by omega,e⟩
 obtain ⟨h1,h2⟩:=key L.length (Nat.le_refl _)
 refine ⟨fun x=>?_,h2⟩
 unfold Lib.compact
 rw [h1]
 constructor
 ·rintro ⟨j,hj,rfl⟩
  simp [List.getD,List.getElem?_eq_getElem hj]
 ·intro hx
  obtain ⟨j,hj,rfl⟩:=List.mem_iff_getElem.1 hx
  exact ⟨j,hj,by simp [List.getD,List.getElem?_eq_getElem hj]⟩
def edgesL (L:List Int):List Int:=Lib.compact (sortL L)
theorem edges_mem {L:List Int} {x:Int}:x ∈ edgesL L↔x ∈ L:=by rw [edgesL,(compact_facts (sortL_le L)).1,sortL_mem]
theorem edges_lt (L:List Int):(edgesL L).Pairwise (· < ·):=(compact_facts (sortL_le L)).2
theorem edges_len (L:List Int):(edgesL L).length≤L.length:=by
 have:=compact_len (sortL L)
 rw [sortL_len] at this
 exact this
theorem gz1_any (b:Bx) (p:Nat) (x y:Int) (w:World) (h0:w.cell? ⟨p,0,none⟩=some (.int .i64 x)) (h1:w.cell? ⟨p,1,none⟩=some (.int .i64 y)):
  Calls Tryz.prog 186 #[.agg #[.int .i64 b.a, .int .i64 b.b, .int .i64 b.c, .int .i64 b.d], .pointer (some ⟨p,0,none⟩)] w fun e w'=>e = .returned (.bool (hasX b x y))∧Below w.heap.size w w':=by
 have hp:p < w.heap.size:=by have:=World.block_lt_of_cell? w _ h0;simpa using this
 have p1:=has_any b.a b.b b.c b.d x y
 unfold hasX
 obtain ⟨d,hd⟩:∃ d,hasB b.a b.b b.c b.d x y=d:=⟨_,rfl⟩
 rw [hd] at p1 ⊢
 have P1:=Lib.hid p1
 clear p1 hd
 go_enter Tryz.func186,Tryz.ntmps186
 go_wp2_with (first
  | (go_at_call 72;with_reducible refine (P1.out _).mono ?_;rintro e w' ⟨rfl,hb⟩;obtain ⟨X1,rfl,hl1,hm1⟩:=later _ hb (Nat.le_refl _);clear hb;(try simp only [q9A,q9B,q9D] at hm1 hl1)))
 go_ret
 exact ⟨rfl,q9l⟩
set_option maxHeartbeats 4000000 in
theorem xindex_any (n c p:Nat) (A:Option Addr) (L:List Bx) (x y:Int) (w:World) (h:Bxs w w.heap.size A L) (hn:L.length=n) (hn1:n≤9223372036854775806) (h0:w.cell? ⟨p,0,none⟩=some (.int .i64 x)) (h1:w.cell? ⟨p,1,none⟩=some (.int .i64 y)):
  Calls Tryz.prog 199 #[.slice A n c, .func (.func 186) #[] #[.pointer (some ⟨p,0,none⟩)]] w fun e w'=>(∃ r:Int,e = .returned (.int .i64 r)∧decide (0≤r)=hasL L x y)∧Below w.heap.size w w':=by
 have hp:p < w.heap.size:=by have:=World.block_lt_of_cell? w _ h0;simpa using this
 have H:=Lib.hid h
 have HN:=Lib.hid hn
 have P1:=Lib.hid (fun (b:Bx) (Y:World) (hY:Below w.heap.size w Y)=>gz1_any b p x y Y ((hY.cell (p:=⟨p,0,none⟩) hp).trans h0) ((hY.cell (p:=⟨p,1,none⟩) hp).trans h1))
 obtain ⟨R,hR⟩:∃ R,hasL L x y=R:=⟨_,rfl⟩
 rw [hR]
 have HR:=Lib.hid hR
 clear h hn hR h0 h1
 go_enter Tryz.func199,Tryz.ntmps199
 go_wp2
 go_loopw [8] (fun i wr=>∃ k:Nat,k≤n∧i = .int .i64 k∧Hid (∀ j,j < k→hasX (L.getD j bx0) x y=false)∧Below w.heap.size w wr) (fun i _=>n - (intOf i).toNat)
 case atStart=>exact ⟨0,Nat.zero_le _,rfl,fun j hj=>absurd hj (by omega),Below.refl _ _⟩
 case round=>
  obtain ⟨k,hk,rfl,hall,hb⟩:=hrel
  obtain ⟨X,rfl⟩:∃ X:Later w.heap.size w,wr=X.w:=⟨⟨wr,hb⟩,rfl⟩
  have hs:=X.is.size
  clear hb
  by_cases hlt:k < n
  ·have hkL:k < L.length:=by rw [HN.out];exact hlt
   obtain ⟨b,o,hA,hB,c0,c1,c2,c3⟩:=bxs_at H.out hkL
   subst hA
   have hyes:hasX (L.getD k bx0) x y=true→R=true:=fun he=>by
    rw [← HR.out]
    exact List.any_eq_true.2 ⟨L.getD k bx0,by rw [getX_lt hkL];exact List.getElem_mem _,he⟩
   obtain ⟨z,hz⟩:∃ z,L.getD k bx0=z:=⟨_,rfl⟩
   rw [hz] at c0 c1 c2 c3 hyes
   have p2:=P1.out z
   obtain ⟨d,hd⟩:∃ d,hasX z x y=d:=⟨_,rfl⟩
   rw [hd] at p2
   have P2:=Lib.hid p2
   have HX:=Lib.hid (show L.getD k bx0=z∧hasX z x y=d from ⟨hz,hd⟩)
   clear p2 hd hz
   cases d with
   | false=>
    clear hyes
    go_wp2_with (first
     | (go_at_call 186;with_reducible refine (P2.out _ ?_).mono ?_;(focus (exact q9l));rintro e w' ⟨rfl,hb⟩;obtain ⟨X1,rfl,hl1,hm1⟩:=later _ hb (Nat.le_refl _);clear hb;(try simp only [q9A,q9B,q9D] at hm1 hl1)))
    go_roundw
    case rel=>
     refine ⟨k+1,by omega,by go_num,fun j hj=>?_,q9l⟩
     by_cases hjk:j=k
     ·subst hjk;rw [HX.out.1,HX.out.2]
     ·exact hall.out j (by omega)
    case measure=>simp [intOf];omega
   | true=>
    obtain rfl:R=true:=hyes HX.out.2
    clear hyes
    go_wp2_with (first
     | (go_at_call 186;with_reducible refine (P2.out _ ?_).mono ?_;(focus (exact q9l));rintro e w' ⟨rfl,hb⟩;obtain ⟨X1,rfl,hl1,hm1⟩:=later _ hb (Nat.le_refl _);clear hb;(try simp only [q9A,q9B,q9D] at hm1 hl1)))
    go_ret
    exact ⟨⟨_,rfl,by simp⟩,q9l⟩
  ·obtain rfl:k=n:=by omega
   obtain rfl:R=false:=by
    rw [← HR.out]
    unfold hasL
    rw [List.any_eq_false]
    intro z hz
    obtain ⟨j,hj,rfl⟩:=List.mem_iff_getElem.1 hz
    have:=hall.out j (by rw [← HN.out];exact hj)
    rw [getX_lt hj] at this
    rw [this]
    simp
   go_wp2
   go_ret
   exact ⟨⟨_,rfl,by decide⟩,q9l⟩
set_option maxHeartbeats 4000000 in
theorem xcontains_any (n c p:Nat) (A:Option Addr) (L:List Bx) (x y:Int) (w:World) (h:Bxs w w.heap.size A L) (hn:L.length=n) (hn1:n≤9223372036854775806) (h0:w.cell? ⟨p,0,none⟩=some (.int .i64 x)) (h1:w.cell? ⟨p,1,none⟩=some (.int .i64 y)):
  Calls Tryz.prog 185 #[.slice A n c, .func (.func 186) #[] #[.pointer (some ⟨p,0,none⟩)]] w fun e w'=>e = .returned (.bool (hasL L x y))∧Below w.heap.size w w':=by
 have P1:=Lib.hid (xindex_any n c p A L x y w h hn hn1 h0 h1)
 obtain ⟨R,hR⟩:∃ R,hasL L x y=R:=⟨_,rfl⟩
 rw [hR] at P1 ⊢
 clear h hn h0 h1 hR
 go_enter Tryz.func185,Tryz.ntmps185
 go_wp2_with fail
 refine P1.out.mono ?_
 rintro e w1 ⟨⟨r,rfl,hr⟩,hb⟩
 obtain ⟨X1,rfl,hl1,hm1⟩:=later _ hb (Nat.le_refl _)
 clear hb
 go_wp2
 go_ret
 exact ⟨ret_b (by first|exact hr|rfl|simp_all),q9l⟩
set_option maxHeartbeats 16000000 in
theorem gzoom_any (n c:Nat) (A:Option Addr) (L:List Rl) (P:Nat→Option Addr × Nat) (x y:Int) (w:World) (h:Rls w w.heap.size A L P) (hn:L.length=n) (hn1:n≤9223372036854775806) (hbx:∀ i,i < n→(L.getD i rl0).boxes.length≤9223372036854775806):
  Calls Tryz.prog 155 #[.slice A n c, .agg #[.int .i64 x, .int .i64 y]] w fun e w'=>e = .returned (.int .i64 (zoomF L x y))∧Below w.heap.size w w':=by
 have hmf:∀ (fn:Fn) (first cap:Array Value) (w:World),(Instr.makeFunc fn first cap).run Tryz.prog w = .ok (.func fn first cap) w:=fun _ _ _ _=>rfl
 have H:=Lib.hid h
 have HN:=Lib.hid hn
 have HB:=Lib.hid hbx
 obtain ⟨R,hR⟩:∃ R,zoomF L x y=R:=⟨_,rfl⟩
 rw [hR]
 have HRR:=Lib.hid hR
 clear h hn hbx hR
 go_enter Tryz.func155,Tryz.ntmps155
 go_wp2
 go_loopw [5,6,11] (fun al ca i wr=>∃ (k:Nat) (u v:Int),al = .int .i64 u∧ca = .int .i64 v∧i = .int .i64 k∧k≤n∧Hid ((u,v)=foldZ (L.take k) x y)∧Below (w.heap.size+1) (w.alloc (Obj.cells #[.int .i64 x, .int .i64 y] 30)) wr) (fun _ _ i _=>n - (intOf i).toNat)
 case atStart=>exact ⟨0,0,16,rfl,rfl,rfl,Nat.zero_le _,rfl,Below.refl _ _⟩
 case round=>
  obtain ⟨k,u,v,rfl,rfl,rfl,hk,hF,hb⟩:=hrel
  have b0:wr.cell? ⟨w.heap.size,0,none⟩=some (.int .i64 x):=(hb.cell (p:=⟨w.heap.size,0,none⟩) (Nat.lt_succ_self _)).trans (by go_simp)
  have b1:wr.cell? ⟨w.heap.size,1,none⟩=some (.int .i64 y):=(hb.cell (p:=⟨w.heap.size,1,none⟩) (Nat.lt_succ_self _)).trans (by go_simp)
  have hbw:Below w.heap.size w wr:=Below.trans q9o (hb.mono (Nat.le_succ _))
  have hs0:=hb.size
  simp only [World.size_alloc] at hs0
  obtain ⟨X,rfl⟩:∃ X:Later w.heap.size w,wr=X.w:=⟨⟨wr,hbw⟩,rfl⟩
  by_cases hlt:k < n
  ·have hkL:k < L.length:=by rw [HN.out];exact hlt
   obtain ⟨b,o,hA,hB,c0,c1,c2,c3,c4,c5,c6⟩:=rls_at H.out hkL
   subst hA
   have hbx:=HB.out k hlt
   have hbs:=(H.out.bx k hkL).up hbw (by omega)
   have hms:foldZ (L.take (k+1)) x y=stepZ x y (u,v) (L.getD k rl0):=by rw [takeR_snoc hkL,fold_snoc,← hF.out]
   obtain ⟨A1,cc1,hP⟩:∃ A1 cc1,P k=(A1,cc1):=⟨_,_,rfl⟩
   rw [hP] at c5 hbs
   obtain ⟨q,hq⟩:∃ q,L.getD k rl0=q:=⟨_,rfl⟩
   rw [hq] at c0 c1 c2 c3 c4 c5 c6 hbx hbs hms
   obtain ⟨m,hm⟩:∃ m,q.boxes.length=m:=⟨_,rfl⟩
   rw [hm] at c5 hbx
   have p3:=fun (Y:World) (hY:Below X.w.heap.size X.w Y)=>xcontains_any m cc1 w.heap.size A1 q.boxes x y Y (hbs.up hY hY.size) hm hbx ((hY.cell (p:=⟨w.heap.size,0,none⟩) (by simp;omega)).trans b0) ((hY.cell (p:=⟨w.heap.size,1,none⟩) (by simp;omega)).trans b1)
   unfold stepZ at hms
   obtain ⟨d2,hd2⟩:∃ d,hasL q.boxes x y=d:=⟨_,rfl⟩
   rw [hd2] at p3 hms
   have P3:=Lib.hid p3
   have HNX:=Lib.hid hms
   have HBB:=Lib.hid hb
   clear p3 hd2 hm hbs hP hms hq hF hb hbw
   cases d2 with
   | false=>
    go_wp2_with (first
     | (go_at_call 185;with_reducible refine (P3.out _ ?_).mono ?_;(focus (exact q9l));rintro e w' ⟨rfl,hb⟩;obtain ⟨X3,rfl,hl3,hm3⟩:=later _ hb (Nat.le_refl _);clear hb;(try simp only [q9A,q9B,q9D] at hm3 hl3)))
    go_roundw
    case rel=>exact ⟨k+1,u,v,rfl,rfl,by go_num,by omega,by rw [HNX.out];rfl,HBB.out.trans ((show Below X.w.heap.size X.w X3.w from q9l).mono (by omega))⟩
    case measure=>simp [intOf];omega
   | true=>
    by_cases k4:q.kind=4
    ·have e4:(q.kind == 4)=true:=by simp [k4]
     have HK:=Lib.hid k4
     clear k4
     go_wp2_with (first
      | (go_at_call 185;with_reducible refine (P3.out _ ?_).mono ?_;(focus (exact q9l));rintro e w' ⟨rfl,hb⟩;obtain ⟨X3,rfl,hl3,hm3⟩:=later _ hb (Nat.le_refl _);clear hb;(try simp only [q9A,q9B,q9D] at hm3 hl3)))
     go_roundw
     case rel=>exact ⟨k+1,max u q.zoom,v,rfl,rfl,by go_num,by omega,Lib.hid (HNX.out.trans ((if_pos (by simp)).trans (if_pos HK.out))).symm,HBB.out.trans ((show Below X.w.heap.size X.w X3.w from q9l).mono (by omega))⟩
     case measure=>simp [intOf];omega
    ·have e4:(q.kind == 4)=false:=by rw [beq_eq_false_iff_ne];exact k4
     have HK:=Lib.hid k4
     clear k4
     go_wp2_with (first
      | (go_at_call 185;with_reducible refine (P3.out _ ?_).mono ?_;(focus (exact q9l));rintro e w' ⟨rfl,hb⟩;obtain ⟨X3,rfl,hl3,hm3⟩:=later _ hb (Nat.le_refl _);clear hb;(try simp only [q9A,q9B,q9D] at hm3 hl3)))
     go_roundw
     case rel=>exact ⟨k+1,u,min v q.zoom,rfl,rfl,by go_num,by omega,Lib.hid (HNX.out.trans ((if_pos (by simp)).trans (if_neg HK.out))).symm,HBB.out.trans ((show Below X.w.heap.size X.w X3.w from q9l).mono (by omega))⟩
     case measure=>simp [intOf];omega
  ·obtain rfl:k=n:=by omega
   obtain rfl:R=min u v:=by
    rw [← HRR.out]
    have h9:=hF.out
    rw [← HN.out,List.take_length] at h9
    unfold zoomF
    rw [← h9]
   go_wp2
   go_ret
   exact ⟨rfl,q9l⟩
end Go.Proofs.YthlijfligikciaaGreat
