/- A table that is not there: the functions and the statement walked. No condition. -/
import Derived.Test.YtjfgjlklbepnjaaTkL
import Derived.Test.YtjfgjlklbepnjaaTkR
import Derived.BigQuiet
namespace Go.Proofs.Ytjfgjlklbepnjaa
open Go.RowKit
set_option linter.unusedSimpArgs false
set_option linter.unusedVariables false
set_option maxRecDepth 4000

/-- Something that is done. -/
structure OpT where
  kind : Int
  fr : Nat
  draw : Nat
  g : Gr
  now : Int
theorem eql_zero (w : World) : (binOp .eql 30 (.agg #[.int .i64 0, .int .i64 0, .int .i64 0, .int .i64 0, .int .i64 0, .int .i64 0, .bool false, .int .i64 0]) (.agg #[.int .i64 0, .int .i64 0, .int .i64 0, .int .i64 0, .int .i64 0, .int .i64 0, .bool false, .int .i64 0])).run Try.prog w = .ok (.bool true) w := eql_grant zeroG zeroG w
theorem eqG_self (g : Gr) : eqG g g = true := eqG_iff.2 rfl
theorem nil_live (s : Nat) (now : Int) (w : World) : Calls Try.prog 18 #[.pointer none, .int .u64 (s : Nat), .int .i64 now] w fun e w' => e = .returned (.tuple #[.agg #[.int .i64 0, .int .i64 0, .int .i64 0, .int .i64 0, .int .i64 0, .int .i64 0, .bool false, .int .i64 0], .bool false]) ∧ Below w.heap.size w w' := by
  go_enter Try.func18, Try.ntmps18
  go_wp2
  refine bodyPost_ret (by simp only [results, Try.results18]; go_simp; all_goals (first | rfl | simp [sel])) rfl ⟨rfl, ?_⟩
  repeat' (first | (with_reducible exact Below.refl _ _) | (with_reducible assumption) | (with_reducible refine Later.step ?_ ?_ _) | (with_reducible refine Below.alloc ?_ ?_ _) | (with_reducible refine Below.drew ?_) | (with_reducible refine Below.setCell ?_ ?_ _) | go_size)
theorem nil_mint (draw : Nat) (g : Gr) (now : Int) (w : World) : Calls Try.prog 13 #[.pointer none, .int .u64 (draw : Nat), .agg #[.int .i64 g.ops, .int .i64 g.zoom, .int .i64 g.a, .int .i64 g.b, .int .i64 g.c, .int .i64 g.d, .bool g.void, .int .i64 g.til], .int .i64 now] w fun e w' => e = .returned (.int .i64 3) ∧ Below w.heap.size w w' := by
  go_enter Try.func13, Try.ntmps13
  go_wp2
  go_ret
  exact ⟨rfl, by repeat' (first | (with_reducible exact Below.refl _ _) | (with_reducible assumption) | (with_reducible refine Later.step ?_ ?_ _) | (with_reducible refine Below.alloc ?_ ?_ _) | (with_reducible refine Below.drew ?_) | (with_reducible refine Below.setCell ?_ ?_ _) | go_size)⟩
theorem nil_derive (fr draw : Nat) (g : Gr) (now : Int) (w : World) : Calls Try.prog 15 #[.pointer none, .int .u64 (fr : Nat), .int .u64 (draw : Nat), .agg #[.int .i64 g.ops, .int .i64 g.zoom, .int .i64 g.a, .int .i64 g.b, .int .i64 g.c, .int .i64 g.d, .bool g.void, .int .i64 g.til], .int .i64 now] w fun e w' => e = .returned (.int .i64 3) ∧ Below w.heap.size w w' := by
  go_enter Try.func15, Try.ntmps15
  go_wp2
  go_ret
  exact ⟨rfl, by repeat' (first | (with_reducible exact Below.refl _ _) | (with_reducible assumption) | (with_reducible refine Later.step ?_ ?_ _) | (with_reducible refine Below.alloc ?_ ?_ _) | (with_reducible refine Below.drew ?_) | (with_reducible refine Below.setCell ?_ ?_ _) | go_size)⟩
theorem nil_revoke (s : Nat) (now : Int) (w : World) : Calls Try.prog 16 #[.pointer none, .int .u64 (s : Nat), .int .i64 now] w fun e w' => e = .returned (.int .i64 3) ∧ Below w.heap.size w w' := by
  go_enter Try.func16, Try.ntmps16
  go_wp2
  go_ret
  exact ⟨rfl, by repeat' (first | (with_reducible exact Below.refl _ _) | (with_reducible assumption) | (with_reducible refine Later.step ?_ ?_ _) | (with_reducible refine Below.alloc ?_ ?_ _) | (with_reducible refine Below.drew ?_) | (with_reducible refine Below.setCell ?_ ?_ _) | go_size)⟩
theorem nil_tickets (now : Int) (w : World) : Calls Try.prog 21 #[.pointer none, .int .i64 now] w fun e w' => e = .returned (.slice none 0 0) ∧ Below w.heap.size w w' := by
  go_enter Try.func21, Try.ntmps21
  go_wp2
  go_ret
  exact ⟨rfl, by repeat' (first | (with_reducible exact Below.refl _ _) | (with_reducible assumption) | (with_reducible refine Later.step ?_ ?_ _) | (with_reducible refine Below.alloc ?_ ?_ _) | (with_reducible refine Below.drew ?_) | (with_reducible refine Below.setCell ?_ ?_ _) | go_size)⟩
theorem nil_len (now : Int) (w : World) : Calls Try.prog 22 #[.pointer none, .int .i64 now] w fun e w' => e = .returned (.int .i64 0) ∧ Below w.heap.size w w' := by
  go_enter Try.func22, Try.ntmps22
  go_wp2_with (first
    | (go_at_call 21; refine (nil_tickets _ _).mono ?_; rintro e w' ⟨rfl, hb⟩; obtain ⟨X1, rfl, hl1, hm1⟩ := later _ hb (Nat.le_refl _); clear hb; (try simp only [World.size_alloc, World.size_setCell, World.size_drew] at hm1 hl1)))
  go_ret
  exact ⟨rfl, by repeat' (first | (with_reducible exact Below.refl _ _) | (with_reducible assumption) | (with_reducible refine Later.step ?_ ?_ _) | (with_reducible refine Below.alloc ?_ ?_ _) | (with_reducible refine Below.drew ?_) | (with_reducible refine bel_drewN ?_ _) | (with_reducible refine bel_grown ?_ (by assumption) ?_ ?_) | (with_reducible refine Below.setCell ?_ ?_ _) | go_size)⟩
set_option maxHeartbeats 8000000 in
theorem tnil_law (x : OpT) (w : World) : Calls Try.prog 6 #[.agg #[.int .i64 x.kind, .int .u64 (x.fr : Nat), .int .u64 (x.draw : Nat), .int .i64 x.g.ops, .int .i64 x.g.zoom, .int .i64 x.g.a, .int .i64 x.g.b, .int .i64 x.g.c, .int .i64 x.g.d, .bool x.g.void, .int .i64 x.g.til, .int .i64 x.now]] w fun e w' => e = .returned (.bool true) ∧ Below w.heap.size w w' := by
  have P1 := Lib.hid nil_live
  have P2 := Lib.hid nil_mint
  have P3 := Lib.hid nil_derive
  have P4 := Lib.hid nil_revoke
  have P5 := Lib.hid nil_tickets
  have P6 := Lib.hid nil_len
  have PK := Lib.hid tknown_any
  have hz := eql_zero
  go_enter Try.func6, Try.ntmps6
  go_wp2_with (first
    | (go_at_call 18; refine (P1.out _ _ _).mono ?_; rintro e w' ⟨rfl, hb⟩; obtain ⟨X1, rfl, hl1, hm1⟩ := later _ hb (Nat.le_refl _); clear hb; (try simp only [World.size_alloc, World.size_setCell, World.size_drew] at hm1 hl1)))
  (refine wp_region_later (X1.w.heap.size + 1) (by kernel_rfl) (by kernel_rfl) (by go_size) ?_; (repeat (go_big_quiet_step ((first | (go_at_call 13; exact Later.call _ (Nat.le_trans (by go_size) (Later.is _).size) (P2.out _ _ _ _)) | (go_at_call 15; exact Later.call _ (Nat.le_trans (by go_size) (Later.is _).size) (P3.out _ _ _ _ _)) | (go_at_call 16; exact Later.call _ (Nat.le_trans (by go_size) (Later.is _).size) (P4.out _ _ _)) | (go_at_call 21; exact Later.call _ (Nat.le_trans (by go_size) (Later.is _).size) (P5.out _ _)) | (go_at_call 22; exact Later.call _ (Nat.le_trans (by go_size) (Later.is _).size) (P6.out _ _)) | (go_at_call 23; exact Later.call _ (Nat.le_trans (by go_size) (Later.is _).size) (PK.out _)))))); refine wpQuiet_nil ?_; intro Xq hlq hmq)
  go_wp2
  go_ret
  exact ⟨rfl, by repeat' (first | (with_reducible exact Below.refl _ _) | (with_reducible assumption) | (with_reducible refine Later.step ?_ ?_ _) | (with_reducible refine Below.alloc ?_ ?_ _) | (with_reducible refine Below.drew ?_) | (with_reducible refine bel_drewN ?_ _) | (with_reducible refine bel_grown ?_ (by assumption) ?_ ?_) | (with_reducible refine Below.setCell ?_ ?_ _) | go_size)⟩
set_option maxHeartbeats 8000000 in
theorem tmeets_law (a b c : Gr) (w : World) : Calls Try.prog 8 #[.agg #[.int .i64 a.ops, .int .i64 a.zoom, .int .i64 a.a, .int .i64 a.b, .int .i64 a.c, .int .i64 a.d, .bool a.void, .int .i64 a.til], .agg #[.int .i64 b.ops, .int .i64 b.zoom, .int .i64 b.a, .int .i64 b.b, .int .i64 b.c, .int .i64 b.d, .bool b.void, .int .i64 b.til], .agg #[.int .i64 c.ops, .int .i64 c.zoom, .int .i64 c.a, .int .i64 c.b, .int .i64 c.c, .int .i64 c.d, .bool c.void, .int .i64 c.til]] w fun e w' => e = .returned (.bool true) ∧ Below w.heap.size w w' := by
  have p1 := tMeet_any a b
  have p2 := tright_any a
  have p3 := kright_any a
  have p4 := kright_any b
  have p5 := narrow_any a b
  have PK := Lib.hid tknown_any
  by_cases hr : rightG a = true ∧ rightG b = true
  · obtain ⟨ha, hb⟩ := hr
    have q1 := fun Y => kmeet_any a b Y ha hb
    have q2 := tMeet_any b a
    have q3 := tMeet_any a a
    have q4 := tright_any (meetG a b)
    have q5 := kright_any c
    have q6 := narrow_any (meetG a b) a
    have q7 := narrow_any (meetG a b) b
    rw [show tMeet a b = meetG a b by unfold tMeet; rw [ha, hb]; rfl] at p1
    rw [show tMeet b a = meetG a b by unfold tMeet; rw [ha, hb]; exact meet_comm b a] at q2
    rw [show tMeet a a = a by unfold tMeet; rw [ha]; exact meet_self ha] at q3
    rw [right_meet ha hb] at q4
    rw [narrow_left ha hb] at q6
    rw [narrow_right ha hb] at q7
    rw [show narrowB a b = eqG (meetG a b) a by unfold narrowB; rw [ha, hb]; rfl] at p5
    have hm := right_meet ha hb
    have hA : rightG c = true → meetG (meetG a b) c = meetG a (meetG b c) := fun _ => meet_assoc a b c
    have q8 := fun (hc : rightG c = true) => tMeet_any b c
    have q9 := fun (hc : rightG c = true) => tMeet_any (meetG a b) c
    have q10 := fun (hc : rightG c = true) => tMeet_any a (meetG b c)
    have e8 := fun (hc : rightG c = true) => (show tMeet b c = meetG b c by unfold tMeet; rw [hb, hc]; rfl)
    have e9 := fun (hc : rightG c = true) => (show tMeet (meetG a b) c = meetG a (meetG b c) by unfold tMeet; rw [hm, hc]; exact hA hc)
    have e10 := fun (hc : rightG c = true) => (show tMeet a (meetG b c) = meetG a (meetG b c) by unfold tMeet; rw [ha, right_meet hb hc]; rfl)
    rw [ha] at p2 p3
    rw [hb] at p4
    generalize meetG a b = M at *
    have hq1 : ∀ Y : World, (binOp .neq 30 (.agg #[.int .i64 M.ops, .int .i64 M.zoom, .int .i64 M.a, .int .i64 M.b, .int .i64 M.c, .int .i64 M.d, .bool M.void, .int .i64 M.til]) (.agg #[.int .i64 M.ops, .int .i64 M.zoom, .int .i64 M.a, .int .i64 M.b, .int .i64 M.c, .int .i64 M.d, .bool M.void, .int .i64 M.til])).run Try.prog Y = .ok (.bool false) Y := fun Y => by have := neq_grant M M Y; rw [eqG_self] at this; exact this
    have hq2 : ∀ Y : World, (binOp .neq 30 (.agg #[.int .i64 a.ops, .int .i64 a.zoom, .int .i64 a.a, .int .i64 a.b, .int .i64 a.c, .int .i64 a.d, .bool a.void, .int .i64 a.til]) (.agg #[.int .i64 a.ops, .int .i64 a.zoom, .int .i64 a.a, .int .i64 a.b, .int .i64 a.c, .int .i64 a.d, .bool a.void, .int .i64 a.til])).run Try.prog Y = .ok (.bool false) Y := fun Y => by have := neq_grant a a Y; rw [eqG_self] at this; exact this
    have hq3 := fun Y : World => eql_grant M a Y
    obtain ⟨d, hd⟩ : ∃ d, eqG M a = d := ⟨_, rfl⟩
    rw [hd] at p5 hq3
    have P1 := Lib.hid p1
    have P2 := Lib.hid p2
    have P3 := Lib.hid p3
    have P4 := Lib.hid p4
    have P5 := Lib.hid p5
    have Q1 := Lib.hid q1
    have Q2 := Lib.hid q2
    have Q3 := Lib.hid q3
    have Q4 := Lib.hid q4
    have Q6 := Lib.hid q6
    have Q7 := Lib.hid q7
    cases hc : rightG c with
    | false =>
      rw [hc] at q5
      have Q5 := Lib.hid q5
      clear p1 p2 p3 p4 p5 q1 q2 q3 q4 q5 q6 q7 q8 q9 q10 e8 e9 e10 hA ha hb hm hc hd
      go_enter Try.func8, Try.ntmps8
      go_wp2_with (first
        | (go_at_call 26; refine (P1.out _).mono ?_; rintro e w' ⟨rfl, hb⟩; obtain ⟨X1, rfl, hl1, hm1⟩ := later _ hb (Nat.le_refl _); clear hb; (try simp only [World.size_alloc, World.size_setCell, World.size_drew] at hm1 hl1)))
      (refine wp_region_later (X1.w.heap.size + 1) (by kernel_rfl) (by kernel_rfl) (by go_size) ?_; (repeat (go_big_quiet_step ((first | (go_at_call 27; exact Later.call _ (Nat.le_trans (by go_size) (Later.is _).size) (P2.out _)) | (go_at_call 28; exact Later.call _ (Nat.le_trans (by go_size) (Later.is _).size) (P3.out _)))))); refine wpQuiet_nil ?_; intro Xq hlq hmq)
      go_wp2_with (first
        | (go_at_call 28; with_reducible refine (P3.out _).mono ?_; rintro e w' ⟨rfl, hb⟩; obtain ⟨X2, rfl, hl2, hm2⟩ := later _ hb (Nat.le_refl _); clear hb; (try simp only [World.size_alloc, World.size_setCell, World.size_drew] at hm2 hl2))
        | (go_at_call 28; with_reducible refine (P4.out _).mono ?_; rintro e w' ⟨rfl, hb⟩; obtain ⟨X3, rfl, hl3, hm3⟩ := later _ hb (Nat.le_refl _); clear hb; (try simp only [World.size_alloc, World.size_setCell, World.size_drew] at hm3 hl3)))
      (refine wp_region_later (X1.w.heap.size + 1) (by kernel_rfl) (by kernel_rfl) (by go_size) ?_; (repeat (go_big_quiet_step ((first | (go_at_call 29; with_reducible refine Later.call _ ?_ (Q1.out _); exact Nat.le_trans (by go_size) (Later.is _).size) | (go_at_call 26; with_reducible refine Later.call _ ?_ (Q2.out _); exact Nat.le_trans (by go_size) (Later.is _).size) | (go_at_call 26; with_reducible refine Later.call _ ?_ (Q3.out _); exact Nat.le_trans (by go_size) (Later.is _).size) | (go_at_call 27; exact Later.call _ (Nat.le_trans (by go_size) (Later.is _).size) (Q4.out _)))))); refine wpQuiet_nil ?_; intro Xq hlq hmq)
      go_wp2
      (refine wp_region_later (X1.w.heap.size + 1) (by kernel_rfl) (by kernel_rfl) (by go_size) ?_; (repeat (go_big_quiet_step ((first | (go_at_call 28; with_reducible refine Later.call _ ?_ (Q5.out _); exact Nat.le_trans (by go_size) (Later.is _).size) | (go_at_call 25; with_reducible refine Later.call _ ?_ (Q6.out _); exact Nat.le_trans (by go_size) (Later.is _).size) | (go_at_call 25; with_reducible refine Later.call _ ?_ (Q7.out _); exact Nat.le_trans (by go_size) (Later.is _).size) | (go_at_call 25; with_reducible refine Later.call _ ?_ (P5.out _); exact Nat.le_trans (by go_size) (Later.is _).size) | (go_at_call 23; exact Later.call _ (Nat.le_trans (by go_size) (Later.is _).size) (PK.out _)))))); refine wpQuiet_nil ?_; intro Xq hlq hmq)
      go_wp2
      go_ret
      exact ⟨by simp, by repeat' (first | (with_reducible exact Below.refl _ _) | (with_reducible assumption) | (with_reducible refine Later.step ?_ ?_ _) | (with_reducible refine Below.alloc ?_ ?_ _) | (with_reducible refine Below.drew ?_) | (with_reducible refine bel_drewN ?_ _) | (with_reducible refine bel_grown ?_ (by assumption) ?_ ?_) | (with_reducible refine Below.setCell ?_ ?_ _) | go_size)⟩
    | true =>
      have q8 := q8 hc
      have q9 := q9 hc
      have q10 := q10 hc
      rw [e8 hc] at q8
      rw [e9 hc] at q9
      rw [e10 hc] at q10
      clear e8 e9 e10 hA hm
      rw [hc] at q5
      generalize meetG b c = BC at *
      generalize meetG a BC = R at *
      have hq4 : ∀ Y : World, (binOp .eql 30 (.agg #[.int .i64 R.ops, .int .i64 R.zoom, .int .i64 R.a, .int .i64 R.b, .int .i64 R.c, .int .i64 R.d, .bool R.void, .int .i64 R.til]) (.agg #[.int .i64 R.ops, .int .i64 R.zoom, .int .i64 R.a, .int .i64 R.b, .int .i64 R.c, .int .i64 R.d, .bool R.void, .int .i64 R.til])).run Try.prog Y = .ok (.bool true) Y := fun Y => by have := eql_grant R R Y; rw [eqG_self] at this; exact this
      have Q5 := Lib.hid q5
      have Q8 := Lib.hid q8
      have Q9 := Lib.hid q9
      have Q10 := Lib.hid q10
      clear p1 p2 p3 p4 p5 q1 q2 q3 q4 q5 q6 q7 q8 q9 q10 ha hb hc hd
      go_enter Try.func8, Try.ntmps8
      go_wp2_with (first
        | (go_at_call 26; refine (P1.out _).mono ?_; rintro e w' ⟨rfl, hb⟩; obtain ⟨X1, rfl, hl1, hm1⟩ := later _ hb (Nat.le_refl _); clear hb; (try simp only [World.size_alloc, World.size_setCell, World.size_drew] at hm1 hl1)))
      (refine wp_region_later (X1.w.heap.size + 1) (by kernel_rfl) (by kernel_rfl) (by go_size) ?_; (repeat (go_big_quiet_step ((first | (go_at_call 27; exact Later.call _ (Nat.le_trans (by go_size) (Later.is _).size) (P2.out _)) | (go_at_call 28; exact Later.call _ (Nat.le_trans (by go_size) (Later.is _).size) (P3.out _)))))); refine wpQuiet_nil ?_; intro Xq hlq hmq)
      go_wp2_with (first
        | (go_at_call 28; with_reducible refine (P3.out _).mono ?_; rintro e w' ⟨rfl, hb⟩; obtain ⟨X2, rfl, hl2, hm2⟩ := later _ hb (Nat.le_refl _); clear hb; (try simp only [World.size_alloc, World.size_setCell, World.size_drew] at hm2 hl2))
        | (go_at_call 28; with_reducible refine (P4.out _).mono ?_; rintro e w' ⟨rfl, hb⟩; obtain ⟨X3, rfl, hl3, hm3⟩ := later _ hb (Nat.le_refl _); clear hb; (try simp only [World.size_alloc, World.size_setCell, World.size_drew] at hm3 hl3)))
      (refine wp_region_later (X1.w.heap.size + 1) (by kernel_rfl) (by kernel_rfl) (by go_size) ?_; (repeat (go_big_quiet_step ((first | (go_at_call 29; with_reducible refine Later.call _ ?_ (Q1.out _); exact Nat.le_trans (by go_size) (Later.is _).size) | (go_at_call 26; with_reducible refine Later.call _ ?_ (Q2.out _); exact Nat.le_trans (by go_size) (Later.is _).size) | (go_at_call 26; with_reducible refine Later.call _ ?_ (Q3.out _); exact Nat.le_trans (by go_size) (Later.is _).size) | (go_at_call 27; exact Later.call _ (Nat.le_trans (by go_size) (Later.is _).size) (Q4.out _)))))); refine wpQuiet_nil ?_; intro Xq hlq hmq)
      go_wp2
      (refine wp_region_later (X1.w.heap.size + 1) (by kernel_rfl) (by kernel_rfl) (by go_size) ?_; (repeat (go_big_quiet_step ((first | (go_at_call 28; with_reducible refine Later.call _ ?_ (Q5.out _); exact Nat.le_trans (by go_size) (Later.is _).size) | (go_at_call 26; with_reducible refine Later.call _ ?_ (Q8.out _); exact Nat.le_trans (by go_size) (Later.is _).size) | (go_at_call 26; with_reducible refine Later.call _ ?_ (Q9.out _); exact Nat.le_trans (by go_size) (Later.is _).size) | (go_at_call 26; with_reducible refine Later.call _ ?_ (Q10.out _); exact Nat.le_trans (by go_size) (Later.is _).size) | (go_at_call 25; with_reducible refine Later.call _ ?_ (Q6.out _); exact Nat.le_trans (by go_size) (Later.is _).size) | (go_at_call 25; with_reducible refine Later.call _ ?_ (Q7.out _); exact Nat.le_trans (by go_size) (Later.is _).size) | (go_at_call 25; with_reducible refine Later.call _ ?_ (P5.out _); exact Nat.le_trans (by go_size) (Later.is _).size) | (go_at_call 23; exact Later.call _ (Nat.le_trans (by go_size) (Later.is _).size) (PK.out _)))))); refine wpQuiet_nil ?_; intro Xq hlq hmq)
      go_wp2
      go_ret
      exact ⟨by simp, by repeat' (first | (with_reducible exact Below.refl _ _) | (with_reducible assumption) | (with_reducible refine Later.step ?_ ?_ _) | (with_reducible refine Below.alloc ?_ ?_ _) | (with_reducible refine Below.drew ?_) | (with_reducible refine bel_drewN ?_ _) | (with_reducible refine bel_grown ?_ (by assumption) ?_ ?_) | (with_reducible refine Below.setCell ?_ ?_ _) | go_size)⟩
  · have e : tMeet a b = zeroG := by
      unfold tMeet
      rw [if_neg]
      simpa using hr
    have hn : narrowB a b = false := by
      unfold narrowB
      cases h1 : rightG a <;> cases h2 : rightG b <;> simp_all
    rw [e] at p1
    rw [hn] at p5
    have hz := eql_zero
    have hr' : rightG a = false ∨ (rightG a = true ∧ rightG b = false) := by
      cases h1 : rightG a <;> cases h2 : rightG b <;> simp_all
    obtain ⟨r1, hr1⟩ : ∃ r, rightG a = r := ⟨_, rfl⟩
    obtain ⟨r2, hr2⟩ : ∃ r, rightG b = r := ⟨_, rfl⟩
    rw [hr1, hr2] at hr'
    rw [hr1] at p2 p3
    rw [hr2] at p4
    unfold zeroG at p1
    simp only at p1
    have P1 := Lib.hid p1
    have P2 := Lib.hid p2
    have P3 := Lib.hid p3
    have P4 := Lib.hid p4
    have P5 := Lib.hid p5
    clear p1 p2 p3 p4 p5 e hn hr hr1 hr2
    rcases hr' with rfl | ⟨rfl, rfl⟩
    all_goals
      go_enter Try.func8, Try.ntmps8
      go_wp2_with (first
        | (go_at_call 26; refine (P1.out _).mono ?_; rintro e w' ⟨rfl, hb⟩; obtain ⟨X1, rfl, hl1, hm1⟩ := later _ hb (Nat.le_refl _); clear hb; (try simp only [World.size_alloc, World.size_setCell, World.size_drew] at hm1 hl1)))
      (refine wp_region_later (X1.w.heap.size + 1) (by kernel_rfl) (by kernel_rfl) (by go_size) ?_; (repeat (go_big_quiet_step ((first | (go_at_call 27; exact Later.call _ (Nat.le_trans (by go_size) (Later.is _).size) (P2.out _)) | (go_at_call 28; exact Later.call _ (Nat.le_trans (by go_size) (Later.is _).size) (P3.out _)))))); refine wpQuiet_nil ?_; intro Xq hlq hmq)
      go_wp2_with (first
        | (go_at_call 28; with_reducible refine (P3.out _).mono ?_; rintro e w' ⟨rfl, hb⟩; obtain ⟨X2, rfl, hl2, hm2⟩ := later _ hb (Nat.le_refl _); clear hb; (try simp only [World.size_alloc, World.size_setCell, World.size_drew] at hm2 hl2))
        | (go_at_call 28; with_reducible refine (P4.out _).mono ?_; rintro e w' ⟨rfl, hb⟩; obtain ⟨X3, rfl, hl3, hm3⟩ := later _ hb (Nat.le_refl _); clear hb; (try simp only [World.size_alloc, World.size_setCell, World.size_drew] at hm3 hl3))
        | (go_at_call 25; with_reducible refine (P5.out _).mono ?_; rintro e w' ⟨rfl, hb⟩; obtain ⟨X4, rfl, hl4, hm4⟩ := later _ hb (Nat.le_refl _); clear hb; (try simp only [World.size_alloc, World.size_setCell, World.size_drew] at hm4 hl4))
        | (go_at_call 23; refine (PK.out _).mono ?_; rintro e w' ⟨rfl, hb⟩; obtain ⟨X5, rfl, hl5, hm5⟩ := later _ hb (Nat.le_refl _); clear hb; (try simp only [World.size_alloc, World.size_setCell, World.size_drew] at hm5 hl5)))
      go_ret
      exact ⟨rfl, by repeat' (first | (with_reducible exact Below.refl _ _) | (with_reducible assumption) | (with_reducible refine Later.step ?_ ?_ _) | (with_reducible refine Below.alloc ?_ ?_ _) | (with_reducible refine Below.drew ?_) | (with_reducible refine bel_drewN ?_ _) | (with_reducible refine bel_grown ?_ (by assumption) ?_ ?_) | (with_reducible refine Below.setCell ?_ ?_ _) | go_size)⟩
end Go.Proofs.Ytjfgjlklbepnjaa
