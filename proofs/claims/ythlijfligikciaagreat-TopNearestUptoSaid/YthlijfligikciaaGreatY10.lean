/- A part of one proof: CellA PlA OpenRl RvA RvB RvC RvD. No condition. -/
import Derived.Test.YthlijfligikciaaGreatY01
import Derived.Test.YthlijfligikciaaGreatY09
import Derived.Lib.MinMax
import Derived.Test.YthlijfligikciaaGreatRows
import Derived.ProofKit
import Derived.OpenShut
import Derived.Deep.Slices
import Derived.Deep.Fields
import Derived.ChangeArms
import Derived.Lib.SmallJoins
import Derived.Lib.AppendZeros
import Derived.Laws.StructEq
namespace Go.Proofs.YthlijfligikciaaGreat
open Go.RowKit
set_option linter.unusedSimpArgs false
set_option linter.unusedVariables false
theorem wrap_small {n:Int} (h0 : -9223372036854775808≤n) (h1:n≤9223372036854775807):wrap64 n=n:=by
 unfold wrap64;omega
theorem pw_wrap {l:Int} (h1:l≤16):wrap64 ((2:Int) ^ l.toNat)=pw l:=by
 have h2:=pw_le h1
 have h3:=pw_pos l
 exact wrap_small (show -9223372036854775808≤pw l by omega) (show pw l≤9223372036854775807 by omega)
theorem cright_cases (l x y:Int):(lvlB l=false∧crightB l x y=false)∨((0≤l∧l≤16)∧lvlB l=true∧((decide (0≤x)=false∧crightB l x y=false)∨(decide (0≤x)=true∧((decide (0≤y)=false∧crightB l x y=false)∨(decide (0≤y)=true∧((decide (x < pw l)=false∧crightB l x y=false)∨(decide (x < pw l)=true∧crightB l x y=decide (y < pw l)))))))):=by
 by_cases h:0≤l∧l≤16
 ·refine .inr ⟨h,lvl_iff.2 h,?_⟩
  by_cases hx:0≤x
  ·refine .inr ⟨by simp [hx],?_⟩
   by_cases hy:0≤y
   ·refine .inr ⟨by simp [hy],?_⟩
    by_cases hp:x < pw l
    ·exact .inr ⟨by simp [hp],by simp [crightB,h,hx,hy,hp]⟩
    ·exact .inl ⟨by simp [hp],by simp [crightB,hp]⟩
   ·exact .inl ⟨by simp [hy],by simp [crightB,hy]⟩
  ·exact .inl ⟨by simp [hx],by simp [crightB,hx]⟩
 ·refine .inl ⟨?_,?_⟩
  ·rw [Bool.eq_false_iff];intro h';exact h (lvl_iff.1 h')
  ·rw [Bool.eq_false_iff];intro h';have:=cright_iff.1 h';exact h ⟨this.1,this.2.1⟩
theorem lvl_any (l:Int) (w:World):
  Calls Tryz.prog 73 #[.int .i64 l] w fun e w'=>e = .returned (.bool (lvlB l))∧Below w.heap.size w w':=by
 go_enter Tryz.func73,Tryz.ntmps73
 go_wp2
 all_goals
  go_ret
  exact ⟨ret_b (iff_b (by simp only [lvl_iff];first|omega|(simp;done)|(simp;omega))),Below.refl _ _⟩
theorem first_any (l n:Int) (w:World) (h0:0≤l) (h1:l≤16) (n0:0≤n) (n1:n < pw l):
  Calls Tryz.prog 77 #[.int .i64 l, .int .i64 n] w fun e w'=>e = .returned (.int .i64 (n*sd l))∧Below w.heap.size w w':=by
 have hg:=grid_lt h0 h1 n0 n1
 have hv:wrap64 (n*(2:Int) ^ (16 - l).toNat)=n*sd l:=wrap_small (show -9223372036854775808≤n*sd l by omega) (show n*sd l≤9223372036854775807 by have:=sd_pos l;omega)
 go_enter Tryz.func77,Tryz.ntmps77
 go_wp2
 go_ret
 exact ⟨ret_i hv,Below.refl _ _⟩
theorem last_any (l n:Int) (w:World) (h0:0≤l) (h1:l≤16) (n0:0≤n) (n1:n < pw l):
  Calls Tryz.prog 78 #[.int .i64 l, .int .i64 n] w fun e w'=>e = .returned (.int .i64 (n*sd l+sd l - 1))∧Below w.heap.size w w':=by
 have hg:=grid_lt h0 h1 n0 n1
 have hp:=pw_le h1
 have hv:wrap64 ((n+1)*(2:Int) ^ (16 - l).toNat)=n*sd l+sd l:=by
  show wrap64 ((n+1)*sd l)=_
  rw [Int.add_mul,Int.one_mul]
  exact wrap_small (by have:=sd_pos l;omega) (by omega)
 go_enter Tryz.func78,Tryz.ntmps78
 go_wp2
 go_ret
 exact ⟨ret_i (wrap_small (by have:=sd_pos l;omega) (by omega)),Below.refl _ _⟩
set_option maxHeartbeats 2000000 in
theorem cright_any (l x y:Int) (w:World):
  Calls Tryz.prog 75 #[.agg #[.int .i64 l, .int .i64 x, .int .i64 y]] w fun e w'=>e = .returned (.bool (crightB l x y))∧Below w.heap.size w w':=by
 rcases cright_cases l x y with ⟨h1,h2⟩|⟨⟨l0,l1⟩,h1,⟨h2,h3⟩|⟨h2,⟨h3,h4⟩|⟨h3,⟨h4,h5⟩|⟨h4,h5⟩⟩⟩⟩
 ·have p1:∀ X:World,Calls Tryz.prog 73 #[.int .i64 l] X fun e w'=>e = .returned (.bool false)∧Below X.heap.size X w':=fun X=>by
   have:=lvl_any l X;rwa [h1] at this
  have P1:=Lib.hid p1
  rw [h2]
  clear p1 h1 h2
  go_enter Tryz.func75,Tryz.ntmps75
  go_wp2_with fail
  (refine wp_region_later (w.heap.size+1) (by kernel_rfl) (by kernel_rfl) (by go_size) ?_;(repeat (go_big_quiet_step ((first|(go_at_call 73;exact Later.call _ (Nat.le_trans (by go_size) (Later.is _).size) (P1.out _))))));refine wpQuiet_nil ?_;intro Xq hlq hmq)
  go_wp2
  go_ret
  exact ⟨rfl,q9o⟩
 all_goals
  have p1:∀ X:World,Calls Tryz.prog 73 #[.int .i64 l] X fun e w'=>e = .returned (.bool true)∧Below X.heap.size X w':=fun X=>by
   have:=lvl_any l X;rwa [h1] at this
  have P1:=Lib.hid p1
  have hw:=pw_wrap l1
  first|rw [h5]|rw [h4]|rw [h3]
  clear p1 h1
  go_enter Tryz.func75,Tryz.ntmps75
  go_wp2_with fail
  (refine wp_region_later (w.heap.size+1) (by kernel_rfl) (by kernel_rfl) (by go_size) ?_;(repeat (go_big_quiet_step ((first|(go_at_call 73;exact Later.call _ (Nat.le_trans (by go_size) (Later.is _).size) (P1.out _))))));refine wpQuiet_nil ?_;intro Xq hlq hmq)
  go_wp2
  go_ret
  exact ⟨by first|rfl|(simp [hw];done),q9o⟩
set_option maxHeartbeats 2000000 in
theorem of_any (x y l:Int) (w:World) (h0:0≤l) (h1:l≤16):
  Calls Tryz.prog 74 #[.agg #[.int .i64 x, .int .i64 y], .int .i64 l] w fun e w'=>e = .returned (.agg #[.int .i64 l, .int .i64 (x / sd l), .int .i64 (y / sd l)])∧Below w.heap.size w w':=by
 have hmf:∀ (fn:Fn) (first cap:Array Value) (w:World),(Instr.makeFunc fn first cap).run Tryz.prog w = .ok (.func fn first cap) w:=fun _ _ _ _=>rfl
 go_enter Tryz.func74,Tryz.ntmps74
 go_wp2_with go_in
 refine bodyPost_ret (by simp only [results,Tryz.results74];go_simp;all_goals (first|rfl|simp [sd])) rfl ⟨rfl,?_⟩
 exact q9o
set_option maxHeartbeats 2000000 in
theorem cof_any (x y l:Int) (w:World):
  Calls Tryz.prog 29 #[.agg #[.int .i64 x, .int .i64 y], .int .i64 l] w fun e w'=>e = .returned (.tuple #[.agg #[.int .i64 (sel (lvlB l && fitsB x y) l), .int .i64 (sel (lvlB l && fitsB x y) (x / sd l)), .int .i64 (sel (lvlB l && fitsB x y) (y / sd l))], .bool (lvlB l && fitsB x y)])∧Below w.heap.size w w':=by
 rcases Bool.eq_false_or_eq_true (lvlB l) with h|h
 ·obtain ⟨l0,l1⟩:=lvl_iff.1 h
  have p1:∀ X:World,Calls Tryz.prog 73 #[.int .i64 l] X fun e w'=>e = .returned (.bool true)∧Below X.heap.size X w':=fun X=>by
   have:=lvl_any l X;rwa [h] at this
  have P1:=Lib.hid p1
  rcases Bool.eq_false_or_eq_true (fitsB x y) with hf|hf
  all_goals
   rw [h,hf]
   have p2:=fun X:World=>fits_any x y X
   rw [hf] at p2
   have P2:=Lib.hid p2
   clear p1 p2 h hf
   go_enter Tryz.func29,Tryz.ntmps29
   go_wp2_with (first
    | (go_at_call 73;refine (P1.out _).mono ?_;rintro e w' ⟨rfl,hb⟩;obtain ⟨X1,rfl,hl1,hm1⟩:=later (w.heap.size+2) hb (by first|exact Nat.le_refl _|go_size);clear hb;(try simp only [q9A,q9B,q9D] at hm1))
    | (go_at_call 10;refine (P2.out _).mono ?_;rintro e w' ⟨rfl,hb⟩;obtain ⟨X2,rfl,hl2,hm2⟩:=later (w.heap.size+2) hb (by first|exact Nat.le_refl _|go_size);clear hb;(try simp only [q9A,q9B,q9D] at hm2))
    | (go_at_call 74;refine (of_any _ _ _ _ l0 l1).mono ?_;rintro e w' ⟨rfl,hb⟩;obtain ⟨X3,rfl,hl3,hm3⟩:=later (w.heap.size+2) hb (by first|exact Nat.le_refl _|go_size);clear hb;(try simp only [q9A,q9B,q9D] at hm3)))
   refine bodyPost_ret (by simp only [results,Tryz.results29];go_simp;all_goals (first|rfl|simp [sel])) rfl ⟨rfl,?_⟩
   exact q9o
 ·have p1:∀ X:World,Calls Tryz.prog 73 #[.int .i64 l] X fun e w'=>e = .returned (.bool false)∧Below X.heap.size X w':=fun X=>by
   have:=lvl_any l X;rwa [h] at this
  have P1:=Lib.hid p1
  rw [h]
  clear p1 h
  go_enter Tryz.func29,Tryz.ntmps29
  go_wp2_with (first
   | (go_at_call 73;refine (P1.out _).mono ?_;rintro e w' ⟨rfl,hb⟩;obtain ⟨X1,rfl,hl1,hm1⟩:=later (w.heap.size+2) hb (by first|exact Nat.le_refl _|go_size);clear hb;(try simp only [q9A,q9B,q9D] at hm1)))
  refine bodyPost_ret (by simp only [results,Tryz.results29];go_simp;all_goals (first|rfl|simp [sel])) rfl ⟨rfl,?_⟩
  exact q9o
set_option maxHeartbeats 4000000 in
theorem box_any (l x y:Int) (w:World):
  Calls Tryz.prog 30 #[.agg #[.int .i64 l, .int .i64 x, .int .i64 y]] w fun e w'=>e = .returned (.tuple #[.agg #[.int .i64 (sel (crightB l x y) (x*sd l)), .int .i64 (sel (crightB l x y) (y*sd l)), .int .i64 (sel (crightB l x y) (x*sd l+sd l - 1)), .int .i64 (sel (crightB l x y) (y*sd l+sd l - 1))], .bool (crightB l x y)])∧Below w.heap.size w w':=by
 have hmf:∀ (fn:Fn) (first cap:Array Value) (w:World),(Instr.makeFunc fn first cap).run Tryz.prog w = .ok (.func fn first cap) w:=fun _ _ _ _=>rfl
 have p1:=fun X:World=>cright_any l x y X
 rcases Bool.eq_false_or_eq_true (crightB l x y) with h|h
 ·obtain ⟨l0,l1,x0,y0,x1,y1⟩:=cright_iff.1 h
  rw [h] at p1 ⊢
  have P1:=Lib.hid p1
  clear p1 h
  go_enter Tryz.func30,Tryz.ntmps30
  go_wp2_with (first
   | (go_at_call 75;refine (P1.out _).mono ?_;rintro e w' ⟨rfl,hb⟩;obtain ⟨X1,rfl,hl1,hm1⟩:=later (w.heap.size+2) hb (by first|exact Nat.le_refl _|go_size);clear hb;(try simp only [q9A,q9B,q9D] at hm1))
   | (go_at_call 77;with_reducible refine (first_any l x _ l0 l1 x0 x1).mono ?_;rintro e w' ⟨rfl,hb⟩;obtain ⟨X2,rfl,hl2,hm2⟩:=later (w.heap.size+2) hb (by first|exact Nat.le_refl _|go_size);clear hb;(try simp only [q9A,q9B,q9D] at hm2))
   | (go_at_call 77;with_reducible refine (first_any l y _ l0 l1 y0 y1).mono ?_;rintro e w' ⟨rfl,hb⟩;obtain ⟨X3,rfl,hl3,hm3⟩:=later (w.heap.size+2) hb (by first|exact Nat.le_refl _|go_size);clear hb;(try simp only [q9A,q9B,q9D] at hm3))
   | (go_at_call 78;with_reducible refine (last_any l x _ l0 l1 x0 x1).mono ?_;rintro e w' ⟨rfl,hb⟩;obtain ⟨X4,rfl,hl4,hm4⟩:=later (w.heap.size+2) hb (by first|exact Nat.le_refl _|go_size);clear hb;(try simp only [q9A,q9B,q9D] at hm4))
   | (go_at_call 78;with_reducible refine (last_any l y _ l0 l1 y0 y1).mono ?_;rintro e w' ⟨rfl,hb⟩;obtain ⟨X5,rfl,hl5,hm5⟩:=later (w.heap.size+2) hb (by first|exact Nat.le_refl _|go_size);clear hb;(try simp only [q9A,q9B,q9D] at hm5))
   | go_in)
  refine bodyPost_ret (by simp only [results,Tryz.results30];go_simp;all_goals (first|rfl|simp [sel])) rfl ⟨rfl,?_⟩
  exact q9o
 ·rw [h] at p1 ⊢
  have P1:=Lib.hid p1
  clear p1 h
  go_enter Tryz.func30,Tryz.ntmps30
  go_wp2_with (first
   | (go_at_call 75;refine (P1.out _).mono ?_;rintro e w' ⟨rfl,hb⟩;obtain ⟨X1,rfl,hl1,hm1⟩:=later (w.heap.size+2) hb (by first|exact Nat.le_refl _|go_size);clear hb;(try simp only [q9A,q9B,q9D] at hm1)))
  refine bodyPost_ret (by simp only [results,Tryz.results30];go_simp;all_goals (first|rfl|simp [sel])) rfl ⟨rfl,?_⟩
  exact q9o
end Go.Proofs.YthlijfligikciaaGreat
namespace Go.Proofs.YthlijfligikciaaGreat
open Go.RowKit Go.Maps
set_option linter.unusedSimpArgs false
set_option linter.unusedVariables false
set_option maxRecDepth 2000
structure Gr where
 ops:Int
 zoom:Int
 a:Int
 b:Int
 c:Int
 d:Int
 void:Bool
 til:Int
def rightG (g:Gr):Bool:=decide (0≤g.ops∧g.ops≤31∧0≤g.zoom∧g.zoom≤16∧0≤g.til∧g.til≤4294967295∧((g.void=true∧g.a=0∧g.b=0∧g.c=0∧g.d=0)∨(g.void=false∧rightB g.a g.b g.c g.d=true)))
theorem rightG_iff {g:Gr}:rightG g=true↔0≤g.ops∧g.ops≤31∧0≤g.zoom∧g.zoom≤16∧0≤g.til∧g.til≤4294967295∧((g.void=true∧g.a=0∧g.b=0∧g.c=0∧g.d=0)∨(g.void=false∧rightB g.a g.b g.c g.d=true)):=by simp [rightG]
set_option maxHeartbeats 8000000 in
theorem tright_any (g:Gr) (w:World):Calls Tryz.prog 68 #[.agg #[.int .i64 g.ops, .int .i64 g.zoom, .int .i64 g.a, .int .i64 g.b, .int .i64 g.c, .int .i64 g.d, .bool g.void, .int .i64 g.til]] w fun e w'=>e = .returned (.bool (rightG g))∧Below w.heap.size w w':=by
 obtain ⟨o,z,a,b,c,d,v,t⟩:=g
 obtain ⟨r,hr⟩:∃ r,rightB a b c d=r:=⟨_,rfl⟩
 have p1:=right_any a b c d
 rw [hr] at p1
 have P1:=Lib.hid p1
 have hE:rightG ⟨o,z,a,b,c,d,v,t⟩=decide (0≤o∧o≤31∧0≤z∧z≤16∧0≤t∧t≤4294967295∧((v=true∧a=0∧b=0∧c=0∧d=0)∨(v=false∧r=true))):=by unfold rightG;rw [hr]
 rw [hE]
 clear p1 hr hE
 go_enter Tryz.func68,Tryz.ntmps68
 cases v
 ·go_wp2_with (first
   | (go_at_call 32;refine (P1.out _).mono ?_;rintro e w' ⟨rfl,hb⟩;obtain ⟨X1,rfl,hl1,hm1⟩:=later (w.heap.size+1) hb (by first|exact Nat.le_refl _|go_size);clear hb;(try simp only [q9A,q9B,q9D] at hm1)))
  all_goals
   go_ret
   exact ⟨ret_b (by cases r <;> simp <;> omega),q9o⟩
 ·go_wp2_with (first
   | (go_at_call 32;refine (P1.out _).mono ?_;rintro e w' ⟨rfl,hb⟩;obtain ⟨X1,rfl,hl1,hm1⟩:=later (w.heap.size+1) hb (by first|exact Nat.le_refl _|go_size);clear hb;(try simp only [q9A,q9B,q9D] at hm1)))
  all_goals
   go_ret
   exact ⟨ret_b (by cases r <;> simp <;> omega),q9o⟩
def rightW (role tier:Int) (g:Gr):Bool:=smallB role 7 && smallB tier 7 && rightG g
set_option maxHeartbeats 4000000 in
theorem pright_any (role tier:Int) (g:Gr) (w:World):Calls Tryz.prog 26 #[.agg #[.int .i64 role, .int .i64 tier, .int .i64 g.ops, .int .i64 g.zoom, .int .i64 g.a, .int .i64 g.b, .int .i64 g.c, .int .i64 g.d, .bool g.void, .int .i64 g.til]] w fun e w'=>e = .returned (.bool (rightW role tier g))∧Below w.heap.size w w':=by
 unfold rightW smallB
 have e:∀ x:Int,decide (0≤x∧x≤7)=(decide (0≤x) && decide (x≤7)):=fun x=>Bool.decide_and _ _
 rw [e role,e tier]
 clear e
 have p1:=fun (Y:World)=>tright_any g Y
 obtain ⟨q1,h1⟩:∃ q,decide (0≤role)=q:=⟨_,rfl⟩
 obtain ⟨q2,h2⟩:∃ q,decide (role≤7)=q:=⟨_,rfl⟩
 obtain ⟨q3,h3⟩:∃ q,decide (0≤tier)=q:=⟨_,rfl⟩
 obtain ⟨q4,h4⟩:∃ q,decide (tier≤7)=q:=⟨_,rfl⟩
 obtain ⟨q5,h5⟩:∃ q,rightG g=q:=⟨_,rfl⟩
 rw [h5] at p1
 rw [h1,h2,h3,h4,h5]
 have P1:=Lib.hid p1
 clear p1 h5
 cases q1 with
 | false=>go_enter Tryz.func26,Tryz.ntmps26;go_wp2;go_ret;exact ⟨by simp,q9o⟩
 | true=>
 cases q2 with
 | false=>go_enter Tryz.func26,Tryz.ntmps26;go_wp2;go_ret;exact ⟨by simp,q9o⟩
 | true=>
 cases q3 with
 | false=>go_enter Tryz.func26,Tryz.ntmps26;go_wp2;go_ret;exact ⟨by simp,q9o⟩
 | true=>
 cases q4 with
 | false=>go_enter Tryz.func26,Tryz.ntmps26;go_wp2;go_ret;exact ⟨by simp,q9o⟩
 | true=>
  go_enter Tryz.func26,Tryz.ntmps26
  go_wp2_with (first
   | (go_at_call 68;refine (P1.out _).mono ?_;rintro e w' ⟨rfl,hb⟩;obtain ⟨X1,rfl,hl1,hm1⟩:=later _ hb (Nat.le_refl _);clear hb;(try simp only [q9A,q9B,q9D] at hm1 hl1)))
  go_ret
  exact ⟨by simp,q9o⟩
set_option maxHeartbeats 4000000 in
theorem plevel_any (role tier z:Int) (g:Gr) (w:World):Calls Tryz.prog 27 #[.agg #[.int .i64 role, .int .i64 tier, .int .i64 g.ops, .int .i64 g.zoom, .int .i64 g.a, .int .i64 g.b, .int .i64 g.c, .int .i64 g.d, .bool g.void, .int .i64 g.til], .int .i64 z] w fun e w'=>e = .returned (.int .i64 (min z g.zoom))∧Below w.heap.size w w':=by
 go_enter Tryz.func27,Tryz.ntmps27
 go_wp2
 go_ret
 exact ⟨by simp,q9o⟩
def showB (l a b c d:Int) (g:Gr):Bool:=decide (l≠0) && !g.void && inB a b c d g.a g.b g.c g.d
set_option maxHeartbeats 8000000 in
theorem pshown_any (role tier id l a b c d:Int) (g:Gr) (w:World):Calls Tryz.prog 31 #[.agg #[.int .i64 role, .int .i64 tier, .int .i64 g.ops, .int .i64 g.zoom, .int .i64 g.a, .int .i64 g.b, .int .i64 g.c, .int .i64 g.d, .bool g.void, .int .i64 g.til], .int .i64 id, .int .i64 l, .agg #[.int .i64 a, .int .i64 b, .int .i64 c, .int .i64 d]] w fun e w'=>e = .returned (.tuple #[.agg #[.int .i64 (sel (showB l a b c d g) id), .int .i64 (sel (showB l a b c d g) l), .int .i64 (sel (showB l a b c d g) a), .int .i64 (sel (showB l a b c d g) b), .int .i64 (sel (showB l a b c d g) c), .int .i64 (sel (showB l a b c d g) d)], .bool (showB l a b c d g)])∧Below w.heap.size w w':=by
 obtain ⟨go,gz,ga,gb,gc,gd,gv,gt⟩:=g
 unfold showB
 simp only
 have p1:=fun (Y:World)=>in_any a b c d ga gb gc gd Y
 obtain ⟨q,hq⟩:∃ q,inB a b c d ga gb gc gd=q:=⟨_,rfl⟩
 rw [hq] at p1
 rw [hq]
 have P1:=Lib.hid p1
 clear p1 hq
 by_cases hl:l=0
 ·have e0:(l == 0)=true:=by simp [hl]
  rw [show decide (l≠0)=false by simp [hl]]
  clear hl
  go_enter Tryz.func31,Tryz.ntmps31
  go_wp2
  refine bodyPost_ret (by simp only [results,Tryz.results31];go_simp;all_goals (first|rfl|simp [sel])) rfl ⟨by simp [sel],?_⟩
  exact q9o
 ·have e0:(l == 0)=false:=by simpa using hl
  rw [show decide (l≠0)=true by simpa using hl]
  clear hl
  cases gv with
  | true=>
   go_enter Tryz.func31,Tryz.ntmps31
   go_wp2
   refine bodyPost_ret (by simp only [results,Tryz.results31];go_simp;all_goals (first|rfl|simp [sel])) rfl ⟨by simp [sel],?_⟩
   exact q9o
  | false=>
   cases q with
   | false=>
    go_enter Tryz.func31,Tryz.ntmps31
    go_wp2_with (first
     | (go_at_call 9;refine (P1.out _).mono ?_;rintro e w' ⟨rfl,hb⟩;obtain ⟨X1,rfl,hl1,hm1⟩:=later _ hb (Nat.le_refl _);clear hb;(try simp only [q9A,q9B,q9D] at hm1 hl1)))
    refine bodyPost_ret (by simp only [results,Tryz.results31];go_simp;all_goals (first|rfl|simp [sel])) rfl ⟨by simp [sel],?_⟩
    exact q9o
   | true=>
    go_enter Tryz.func31,Tryz.ntmps31
    go_wp2_with (first
     | (go_at_call 9;refine (P1.out _).mono ?_;rintro e w' ⟨rfl,hb⟩;obtain ⟨X1,rfl,hl1,hm1⟩:=later _ hb (Nat.le_refl _);clear hb;(try simp only [q9A,q9B,q9D] at hm1 hl1)))
    refine bodyPost_ret (by simp only [results,Tryz.results31];go_simp;all_goals (first|rfl|simp [sel])) rfl ⟨by simp [sel],?_⟩
    exact q9o
end Go.Proofs.YthlijfligikciaaGreat
namespace Go.Proofs.YthlijfligikciaaGreat
open Go.ChangeShapes Go.WideShapes Go.ChangeAt Go.RowKit
set_option linter.unusedSimpArgs false
set_option linter.unusedVariables false
set_option maxRecDepth 4000
theorem bulk_one {H:Type} (d:DataW H):1≤Rows.uptoBulk d:=by
 cases d with
 | lit l=>cases l <;> simp [Rows.uptoBulk]
 | nil=>simp [Rows.uptoBulk]
 | ptr d=>simp [Rows.uptoBulk]
 | slice elems spare=>simp [Rows.uptoBulk]
 | agg parts=>simp [Rows.uptoBulk]
 | iface t d=>simp [Rows.uptoBulk]
 | map entries=>simp [Rows.uptoBulk]
 | held h=>simp [Rows.uptoBulk]
theorem bulk_len {H:Type} (l:List (DataW H)):l.length≤Rows.uptoBulkAll l:=by
 induction l with
 | nil=>simp [Rows.uptoBulkAll]
 | cons x r ih=>have:=bulk_one x;simp only [Rows.uptoBulkAll,List.length_cons];omega
section
variable {H:Type} {enc:TypeId × Value→H} {W:World} {base:Nat} {held:Bool} {fuel:Nat} {x:DataW H × List MemPlace}
theorem cells_int:Tryz.prog.cellsOf 3=1:=by kernel_rfl
theorem cells_bool:Tryz.prog.cellsOf 4=1:=by kernel_rfl
theorem cells_rc:Tryz.prog.cellsOf 24=4:=by kernel_rfl
theorem cells_pt:Tryz.prog.cellsOf 30=2:=by kernel_rfl
theorem cells_rcs:Tryz.prog.cellsOf 63=1:=by kernel_rfl
theorem cells_rule:Tryz.prog.cellsOf 65=7:=by kernel_rfl
theorem cells_gr:Tryz.prog.cellsOf 26=8:=by kernel_rfl
theorem cells_vw:Tryz.prog.cellsOf 28=10:=by kernel_rfl
theorem cells_rec:Tryz.prog.cellsOf 32=4:=by kernel_rfl
theorem open_z {v:Value} (h:DataW.trod enc Tryz.prog W base (fun _=>true) held fuel 3 [v]=some x):∃ z,v = .int .i64 z∧wf64 z:=by
 obtain ⟨z,e,_,f⟩:=DataW.trod_int Tryz.underlying3 h
 simp at e
 simp only [Lit.wf,Bool.and_eq_true,decide_eq_true_eq] at f
 exact ⟨z,e,⟨f.1,f.2⟩⟩
theorem open_b {v:Value} (h:DataW.trod enc Tryz.prog W base (fun _=>true) held fuel 4 [v]=some x):∃ z,v = .bool z:=by
 obtain ⟨z,e,_⟩:=DataW.trod_bool Tryz.underlying4 h
 simp at e
 exact ⟨z,e⟩
theorem open_rc4 {v0 v1 v2 v3:Value} (h:DataW.trod enc Tryz.prog W base (fun _=>true) held fuel 24 [v0,v1,v2,v3]=some x):∃ b:Bx,[v0,v1,v2,v3]=[.int .i64 b.a, .int .i64 b.b, .int .i64 b.c, .int .i64 b.d]:=by
 obtain ⟨xs,n',hn',hx',hcl,hxl,hf⟩:=DataW.trod_struct Tryz.underlying24 h
 match xs,hxl with
 | [y0,y1,y2,y3],_=>
  have h0:=hf 0 _ rfl
  have h1:=hf 1 _ rfl
  have h2:=hf 2 _ rfl
  have h3:=hf 3 _ rfl
  simp [cells_int] at h0 h1 h2 h3
  obtain ⟨a,rfl,_⟩:=open_z h0
  obtain ⟨b,rfl,_⟩:=open_z h1
  obtain ⟨c,rfl,_⟩:=open_z h2
  obtain ⟨d,rfl,_⟩:=open_z h3
  exact ⟨⟨a,b,c,d⟩,rfl⟩
theorem open_pt2 {v0 v1:Value} (h:DataW.trod enc Tryz.prog W base (fun _=>true) held fuel 30 [v0,v1]=some x):∃ a b,[v0,v1]=[.int .i64 a, .int .i64 b]:=by
 obtain ⟨xs,n',hn',hx',hcl,hxl,hf⟩:=DataW.trod_struct Tryz.underlying30 h
 match xs,hxl with
 | [y0,y1],_=>
  have h0:=hf 0 _ rfl
  have h1:=hf 1 _ rfl
  simp [cells_int] at h0 h1
  obtain ⟨a,rfl,_⟩:=open_z h0
  obtain ⟨b,rfl,_⟩:=open_z h1
  exact ⟨a,b,rfl⟩
theorem open_gr8 {v0 v1 v2 v3 v4 v5 v6 v7:Value} (h:DataW.trod enc Tryz.prog W base (fun _=>true) held fuel 26 [v0,v1,v2,v3,v4,v5,v6,v7]=some x):∃ g:Gr,[v0,v1,v2,v3,v4,v5,v6,v7]=[.int .i64 g.ops, .int .i64 g.zoom, .int .i64 g.a, .int .i64 g.b, .int .i64 g.c, .int .i64 g.d, .bool g.void, .int .i64 g.til]:=by
 obtain ⟨xs,n',hn',hx',hcl,hxl,hf⟩:=DataW.trod_struct Tryz.underlying26 h
 match xs,hxl with
 | [y0,y1,y2,y3,y4],_=>
  have h0:=hf 0 _ rfl
  have h1:=hf 1 _ rfl
  have h2:=hf 2 _ rfl
  have h3:=hf 3 _ rfl
  have h4:=hf 4 _ rfl
  simp [cells_int,cells_rc,cells_bool] at h0 h1 h2 h3 h4
  obtain ⟨o,rfl,_⟩:=open_z h0
  obtain ⟨z,rfl,_⟩:=open_z h1
  obtain ⟨⟨a,b,c,d⟩,hb⟩:=open_rc4 h2
  obtain ⟨v,rfl⟩:=open_b h3
  obtain ⟨t,rfl,_⟩:=open_z h4
  refine ⟨⟨o,z,a,b,c,d,v,t⟩,?_⟩
  simp only [List.cons.injEq,and_true] at hb
  obtain ⟨rfl,rfl,rfl,rfl⟩:=hb
  rfl
theorem list_of {α:Type} (d:α) {P:Nat→α→Prop}:∀ n,(∀ i,i < n→∃ a,P i a)→∃ L:List α,L.length=n∧∀ i,i < n→P i (L.getD i d)
 | 0,_=>⟨[],rfl,fun i hi=>absurd hi (by omega)⟩
 | n+1,h=>by
  obtain ⟨L,hL,hP⟩:=list_of d n fun i hi=>h i (by omega)
  obtain ⟨a,ha⟩:=h n (by omega)
  refine ⟨L ++ [a],by simp [hL],fun i hi=>?_⟩
  by_cases hin:i < n
  ·have e:(L ++ [a]).getD i d=L.getD i d:=by simp [List.getD,List.getElem?_append_left (show i < L.length by omega)]
   rw [e]
   exact hP i hin
  ·obtain rfl:i=L.length:=by omega
   have e:(L ++ [a]).getD L.length d=a:=by simp [List.getD]
   rw [e]
   obtain rfl:L.length=n:=by omega
   exact ha
theorem open_boxes {v:Value} (h:DataW.trod enc Tryz.prog W base (fun _=>true) held fuel 63 [v]=some x):
  ∃ A c L,v = .slice A (L:List Bx).length c∧Bxs W W.heap.size A L∧(L.length≤c∧c≤9223372036854775807)∧(A=none→L.length=0)∧L.length≤Rows.uptoBulk x.1:=by
 rcases Go.Deep.open_slice Tryz.underlying63 h with ⟨hcs,_⟩|⟨ad,len,cap,m,n,D,Pl,hcs,hb,hl,hm,hmm,hx,hi⟩
 ·simp at hcs
  exact ⟨none,0,[],hcs,fun h=>absurd h (by simp),⟨by simp,by decide⟩,fun _=>rfl,by simp⟩
 ·simp at hcs
  subst hcs
  have key:∀ i,i < len→∃ b:Bx,∀ j,j < 4→W.cell? ((ad.add (i*4)).add j)=some (bxC b j):=fun i hlt=>by
   obtain ⟨cs',hc,ht⟩:=hi i (by rw [hmm];split <;> omega)
   rw [cells_rc] at hc
   obtain ⟨_,hlen,hget⟩:=World.cells?_some hc
   match cs',hlen with
   | [v0,v1,v2,v3],_=>
    obtain ⟨b,hb9⟩:=open_rc4 ht
    refine ⟨b,fun j hj=>?_⟩
    rw [hget j hj,hb9]
    match j,hj with
    | 0,_|1,_|2,_|3,_=>rfl
  obtain ⟨L,hL,hP⟩:=list_of bx0 len key
  subst hL
  refine ⟨some ad,cap,L,rfl,fun hp=>?_,⟨hl,by have:(maxLen:Nat)=9223372036854775807:=rfl;omega⟩,(fun e=>by cases e),?_⟩
  ·have h0:=hP 0 (by omega) 0 (by omega)
   obtain ⟨b,o,sp⟩:=ad
   have hsp:sp=none:=by simpa [Addr.add] using World.cell?_spot h0
   subst hsp
   refine ⟨b,o,rfl,by have:=World.block_lt_of_cell? _ _ h0;simpa [Addr.add] using this,fun i hi j hj=>?_⟩
   have:=hP i (by omega) j hj
   rw [Addr.add_lit,Addr.add_lit] at this
   exact this
  ·rw [hx]
   simp only [Rows.uptoBulk]
   have:=bulk_len ((List.range L.length).map D)
   rw [List.length_map,List.length_range] at this
   omega
theorem open_rule {v0 v1 v2 v3 v4 v5 v6:Value} (h:DataW.trod enc Tryz.prog W base (fun _=>true) held fuel 65 [v0,v1,v2,v3,v4,v5,v6]=some x):
  ∃ r:RP,[v0,v1,v2,v3,v4,v5,v6]=rpV r∧Bxs W W.heap.size r.2.1 r.1.boxes∧(r.1.boxes.length≤r.2.2∧r.2.2≤9223372036854775807)∧(r.2.1=none→r.1.boxes.length=0)∧r.1.boxes.length≤Rows.uptoBulk x.1:=by
 obtain ⟨xs,n',hn',hx',hcl,hxl,hf⟩:=DataW.trod_struct Tryz.underlying65 h
 match xs,hxl with
 | [y0,y1,y2,y3,y4,y5,y6],_=>
  have h0:=hf 0 _ rfl
  have h1:=hf 1 _ rfl
  have h2:=hf 2 _ rfl
  have h3:=hf 3 _ rfl
  have h4:=hf 4 _ rfl
  have h5:=hf 5 _ rfl
  have h6:=hf 6 _ rfl
  simp [cells_int,cells_rcs] at h0 h1 h2 h3 h4 h5 h6
  obtain ⟨a,rfl,_⟩:=open_z h0
  obtain ⟨b,rfl,_⟩:=open_z h1
  obtain ⟨c,rfl,_⟩:=open_z h2
  obtain ⟨d,rfl,_⟩:=open_z h3
  obtain ⟨e,rfl,_⟩:=open_z h4
  obtain ⟨A,cc,L,rfl,hB,hc,hn,hl⟩:=open_boxes h5
  obtain ⟨z,rfl,_⟩:=open_z h6
  refine ⟨(⟨a,b,c,d,e,L,z⟩,(A,cc)),rfl,hB,hc,hn,Nat.le_trans hl ?_⟩
  have hD:x.1 = .agg [y0.1,y1.1,y2.1,y3.1,y4.1,y5.1,y6.1]:=by rw [hx'];rfl
  rw [hD]
  simp only [Rows.uptoBulk,Rows.uptoBulkAll]
  omega
theorem cnt_le:∀ (L:List Rl) (D:Nat→DataW H),(∀ i,i < L.length→(L.getD i rl0).boxes.length≤Rows.uptoBulk (D i))→cntB L≤Rows.uptoBulkAll ((List.range L.length).map D)
 | [],_,_=>by simp [cntB]
 | r :: L,D,h=>by
  have ih:=cnt_le L (fun i=>D (i+1)) (fun i hi=>h (i+1) (by simpa using hi))
  have h0:=h 0 (by simp)
  rw [List.length_cons,List.range_succ_eq_map,List.map_cons,List.map_map]
  simp only [Rows.uptoBulkAll,cntB,List.map_cons,List.sum_cons] at ih ⊢
  have e:List.map (D ∘ Nat.succ) (List.range L.length)=List.map (fun i=>D (i+1)) (List.range L.length):=rfl
  rw [e]
  have h1:r.boxes.length≤Rows.uptoBulk (D 0):=h0
  omega
theorem open_rules {a:Option Addr} {len cap:Nat} (h:DataW.trod enc Tryz.prog W base (fun _=>true) held fuel 22 [.slice a len cap]=some x):
  ∃ L P,L.length=len∧Rls W W.heap.size a L P∧(∀ i,i < len→(P i).1=none→(L.getD i rl0).boxes.length=0)∧len≤Rows.uptoBulk x.1∧cntB L≤Rows.uptoBulk x.1:=by
 rcases Go.Deep.open_slice Tryz.underlying22 h with ⟨hcs,_⟩|⟨ad,len',cap',m,n,D,Pl,hcs,hb,hl,hm,hmm,hx,hi⟩
 ·simp at hcs
  obtain ⟨rfl,rfl,rfl⟩:=hcs
  exact ⟨[],fun _=>(none,0),rfl,⟨fun h=>absurd h (by simp),fun i h=>absurd h (by simp),fun i h=>absurd h (by simp)⟩,fun i h=>absurd h (by omega),by omega,by simp [cntB]⟩
 ·simp at hcs
  obtain ⟨rfl,rfl,rfl⟩:=hcs
  have key:∀ i,i < len→∃ r:RP,(∀ j,j < 7→W.cell? ((ad.add (i*7)).add j)=(rpV r)[j]?)∧Bxs W W.heap.size r.2.1 r.1.boxes∧(r.1.boxes.length≤r.2.2∧r.2.2≤9223372036854775807)∧(r.2.1=none→r.1.boxes.length=0)∧r.1.boxes.length≤Rows.uptoBulk (D i):=fun i hlt=>by
   obtain ⟨cs',hc,ht⟩:=hi i (by rw [hmm];split <;> omega)
   rw [cells_rule] at hc
   obtain ⟨_,hlen,hget⟩:=World.cells?_some hc
   match cs',hlen with
   | [v0,v1,v2,v3,v4,v5,v6],_=>
    obtain ⟨r,hr,h1,h2,h3,h4⟩:=open_rule ht
    refine ⟨r,fun j hj=>?_,h1,h2,h3,h4⟩
    rw [hget j hj,← hr]
  obtain ⟨M,hM,hP⟩:=list_of rp0 len key
  subst hM
  have hget:∀ i,i < M.length→(M.map Prod.fst).getD i rl0=(M.getD i rp0).1:=fun i hi=>by simp [List.getD,List.getElem?_eq_getElem hi]
  refine ⟨M.map Prod.fst,fun i=>(M.getD i rp0).2,by simp,⟨fun hp=>?_,fun i hi=>?_,fun i hi=>?_⟩,fun i hi hn=>?_,?_,?_⟩
  ·rw [List.length_map] at hp
   have h0:W.cell? ((ad.add (0*7)).add 0)=some _:=(hP 0 hp).1 0 (by omega)
   obtain ⟨b,o,sp⟩:=ad
   have hsp:sp=none:=by simpa [Addr.add] using World.cell?_spot h0
   subst hsp
   refine ⟨b,o,rfl,by have:=World.block_lt_of_cell? _ _ h0;simpa [Addr.add] using this,fun i hi=>?_⟩
   rw [List.length_map] at hi
   rw [hget i hi]
   have hc:∀ j,j < 7→W.cell? ⟨b,o+i*7+j,none⟩=(rpV (M.getD i rp0))[j]? := fun j hj=>by
    have:=(hP i hi).1 j hj
    rw [Addr.add_lit,Addr.add_lit] at this
    exact this
   exact ⟨hc 0 (by decide),hc 1 (by decide),hc 2 (by decide),hc 3 (by decide),hc 4 (by decide),hc 5 (by decide),hc 6 (by decide)⟩
  ·rw [List.length_map] at hi
   rw [hget i hi]
   exact (hP i hi).2.1
  ·rw [List.length_map] at hi
   rw [hget i hi]
   exact (hP i hi).2.2.1
  ·rw [hget i hi]
   exact (hP i hi).2.2.2.1 hn
  ·rw [hx]
   simp only [Rows.uptoBulk]
   have:=bulk_len ((List.range M.length).map D)
   rw [List.length_map,List.length_range] at this
   omega
  ·have h9:=cnt_le (M.map Prod.fst) D (fun i hi=>by
    rw [List.length_map] at hi
    rw [hget i hi]
    exact (hP i hi).2.2.2.2)
   rw [List.length_map] at h9
   rw [hx]
   simp only [Rows.uptoBulk]
   omega
theorem open_viewer {r:Reach} {b0:Nat} {v:Value} {d:DataW H} {p:List MemPlace} (hv:Value.okWide Tryz.prog W r b0 28 v) (h:DataW.Trod enc Tryz.prog W base (fun _=>true) held 28 v d p):∃ role tier,∃ g:Gr,v = .agg #[.int .i64 role, .int .i64 tier, .int .i64 g.ops, .int .i64 g.zoom, .int .i64 g.a, .int .i64 g.b, .int .i64 g.c, .int .i64 g.d, .bool g.void, .int .i64 g.til]:=by
 obtain ⟨cs,rfl,hsz⟩:=okWide_struct Tryz.underlying28 hv
 obtain ⟨l⟩:=cs
 match l,hsz.trans cells_vw with
 | [v0,v1,v2,v3,v4,v5,v6,v7,v8,v9],_=>
  obtain ⟨fuel,hf0⟩:=h
  obtain ⟨xs,n',hn',hx',hcl,hxl,hf⟩:=DataW.trod_struct Tryz.underlying28 (by simpa [Value.cells] using hf0)
  match xs,hxl with
  | [y0,y1,y2],_=>
   have h0:=hf 0 _ rfl
   have h1:=hf 1 _ rfl
   have h2:=hf 2 _ rfl
   simp [cells_int,cells_gr] at h0 h1 h2
   obtain ⟨a,rfl,_⟩:=open_z h0
   obtain ⟨b,rfl,_⟩:=open_z h1
   obtain ⟨g,hg⟩:=open_gr8 h2
   refine ⟨a,b,g,?_⟩
   simp only [List.cons.injEq,and_true] at hg
   obtain ⟨rfl,rfl,rfl,rfl,rfl,rfl,rfl,rfl⟩:=hg
   rfl
end
end Go.Proofs.YthlijfligikciaaGreat
namespace Go.Proofs.YthlijfligikciaaGreat
open Go.RowKit Go.Maps
set_option linter.unusedSimpArgs false
set_option linter.unusedVariables false
set_option maxRecDepth 2000
def maskN (L:List Rl) (a b c:Int):Nat→Nat
 | 0=>0
 | i+1=>if forR (L.getD i rl0) a b c=true then maskN L a b c i+2 ^ i else maskN L a b c i
structure RdV (w:World) (A:Option Addr) (n:Nat) (vs:List Value):Prop where
 nil:A=none→n=0
 cells:∀ ad,A=some ad→ad.block < w.heap.size∧∀ j u,vs[j]? = some u→w.cell? (ad.add j)=some u
theorem RdV.keep {w w':World} {A:Option Addr} {n:Nat} {vs:List Value} (h:RdV w A n vs) (hb:Below w.heap.size w w'):RdV w' A n vs:=
 ⟨h.nil,fun ad ha=>⟨Nat.lt_of_lt_of_le (h.cells ad ha).1 hb.size,fun j u hj=>(hb.cell (p:=ad.add j) (by rw [show (ad.add j).block=ad.block by unfold Addr.add;(repeat' split) <;> rfl];exact (h.cells ad ha).1)).trans ((h.cells ad ha).2 j u hj)⟩⟩
structure Two (w:World) (base:Nat) (C1 C2:Option Addr) (c1 c2 m:Nat) (X Y:List Int):Prop where
 ox:w.ownsRow base 3 1 (.slice C1 m c1) m (nC X)
 oy:w.ownsRow base 3 1 (.slice C2 m c2) m (nC Y)
 ne:gOf C1≠gOf C2
 some:(gOf C1).isSome=true∧(gOf C2).isSome=true
theorem Two.keep {w w':World} {base:Nat} {C1 C2:Option Addr} {c1 c2 m:Nat} {X Y:List Int} (h:Two w base C1 C2 c1 c2 m X Y) (hb:Below w.heap.size w w'):Two w' base C1 C2 c1 c2 m X Y:=⟨own_keep h.ox hb,own_keep h.oy hb,h.ne,h.some⟩
end Go.Proofs.YthlijfligikciaaGreat
namespace Go.Proofs.YthlijfligikciaaGreat
open Go.RowKit Go.Maps
set_option linter.unusedSimpArgs false
set_option linter.unusedVariables false
set_option maxRecDepth 4000
theorem wpOp_list {P:Program} {ops:Array Oper} {Q:Exit→Act→World→Prop} {i:Nat} {oi:Oper} {K:Act→World→Prop} {a:Act} {w:World} (hi:ops[i]? = some oi) (h:wpList P ops (Exit.then K Q) [oi] a w):wpOp P ops Q i K a w:=by
 unfold wpOp
 simp only [hi]
 unfold wpList at h
 split
 ·rename_i hw
  rw [if_pos hw] at h
  rcases h with h|h
  ·left
   unfold Oper.wp at h ⊢
   generalize (execOp a.eval oi).run P w=r at h ⊢
   cases r with
   | ok n w'=>
    cases n <;> simp only [Oper.upon] at h ⊢ <;>
     first
      | exact h
      | exact Calls.mono h (fun e w'' he=>by cases e <;> exact he)
      | exact Rows.mono h (fun _ _ he=>he)
   | halt x w'=>cases x <;> simp only [Oper.upon] at h ⊢ <;> exact h
  ·refine .inr ⟨h.1,?_⟩
   exact h.2
 ·rename_i hw
  rw [if_neg hw] at h
  exact h
theorem wpAnyE_two {P:Program} {ops:Array Oper} {Q:Exit→Act→World→Prop} {md:Region.Mode} {S:World→Prop} {E:Nat→Bool} {i j:Nat} {oi oj:Oper} {fuel:Nat} {listed:Array Bool} {a:Act} {w:World} (hi:ops[i]? = some oi) (hj:ops[j]? = some oj) (hr:Region.ready md ops listed=[i,j])
  (h1:wpList P ops (Exit.then (fun a' w'=>(E i=true→S w')∧wpAnyE P md ops Q S E fuel (listed.setIfInBounds i true) a' w') Q) [oi] a w)
  (h2:wpList P ops (Exit.then (fun a' w'=>(E j=true→S w')∧wpAnyE P md ops Q S E fuel (listed.setIfInBounds j true) a' w') Q) [oj] a w):wpAnyE P md ops Q S E (fuel+1) listed a w:=by
 refine ⟨fun h0=>(by rw [hr] at h0;cases h0),fun x hx=>?_⟩
 rw [hr] at hx
 rcases List.mem_cons.1 hx with rfl|hx
 ·exact wpOp_list hi h1
 ·obtain rfl:=List.mem_singleton.1 hx
  exact wpOp_list hj h2
theorem wpAnyE_oneG {P:Program} {ops:Array Oper} {Q:Exit→Act→World→Prop} {md:Region.Mode} {S:World→Prop} {E:Nat→Bool} {i:Nat} {oi:Oper} {fuel:Nat} {listed:Array Bool} {a:Act} {w:World} (hi:ops[i]? = some oi) (hr:Region.ready md ops listed=[i]) (hw:Region.wanted oi (yielded ops a.tmps)=true)
  (h:wpList P ops (Exit.then (fun a' w'=>(E i=true→S w')∧wpAnyE P md ops Q S E fuel (listed.setIfInBounds i true) a' w') Q) [{ oi with guard:=none }] a w):wpAnyE P md ops Q S E (fuel+1) listed a w:=
 wpAnyE_one hi hr (by
  unfold wpList
  rw [if_pos hw]
  unfold wpList at h
  rw [if_pos (by simp [Region.wanted])] at h
  exact h)
theorem cells_four_new (w:World) (a b c d:Value) (t:TypeId):∀ j u,([a,b,c,d]:List Value)[j]? = some u→(w.alloc (.cells #[a,b,c,d] t)).cell? ((⟨w.heap.size,0,none⟩:Addr).add j)=some u:=by
 intro j u hj
 match j,hj with
 | 0,hj|1,hj|2,hj|3,hj=>simp at hj;subst hj;simp [Addr.add]
def eqX (x y:Bx):Bool:=decide (x.a=y.a∧x.b=y.b∧x.c=y.c∧x.d=y.d)
theorem eqX_iff {x y:Bx}:eqX x y=true↔x=y:=by
 unfold eqX
 rw [decide_eq_true_eq]
 constructor
 ·rintro ⟨a,b,c,d⟩;cases x;cases y;simp_all
 ·rintro rfl;simp
instance:DecidableEq Bx:=fun a b=>decidable_of_iff (eqX a b=true) eqX_iff
end Go.Proofs.YthlijfligikciaaGreat
