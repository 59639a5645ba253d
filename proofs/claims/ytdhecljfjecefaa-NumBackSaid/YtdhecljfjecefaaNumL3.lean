/- The layer's statements walked: bytes of numbers, and back. No condition. -/
import Derived.Test.YtdhecljfjecefaaNumL2
namespace Go.Proofs.Ytdhecljfjecefaa
open Go.RowKit Go.PlainAid
set_option linter.unusedSimpArgs false
set_option linter.unusedVariables false
set_option maxRecDepth 2000

theorem rput_none (n wide : Int) (w : World) (h : wide < 1 ∨ 8 < wide) :
    Calls Try.prog 19 #[.int .u64 n, .int .i64 wide] w fun e w' => e = .returned (.tuple #[.slice none 0 0, .bool false]) ∧ Below w.heap.size w w' := by
  rcases h with h | h
  · go_enter Try.func19, Try.ntmps19
    go_wp2
    go_ret2
    exact ⟨rfl, Below.refl _ _⟩
  · have h' : ¬ wide < 1 := by omega
    go_enter Try.func19, Try.ntmps19
    go_wp2
    go_ret2
    exact ⟨rfl, Below.refl _ _⟩
set_option maxHeartbeats 4000000 in
theorem bytes_walk (a wide : Int) (w : World) (ha : (Lit.int .u64 a).wf = true) (hw : (Lit.int .i64 wide).wf = true) :
    Calls Try.prog 6 #[.int .u64 a, .int .i64 wide] w fun e w' => e = .returned (.bool true) ∧ Below w.heap.size w w' := by
  obtain ⟨N, rfl⟩ := Int.eq_ofNat_of_zero_le (u64_lim ha).1
  have hN : N < 18446744073709551616 := by have := (u64_lim ha).2; omega
  clear ha hw
  rcases fit_cases N wide hN with ⟨f1, f2, f3⟩ | ⟨_, hno⟩
  · obtain ⟨m, rfl⟩ := Int.eq_ofNat_of_zero_le (show 0 ≤ wide by omega)
    rw [Int.toNat_natCast] at f3
    have p1 := fun X : World => put_any N m X (by omega) (by omega) (by omega) (by omega) (fun _ => put_fit f3)
    have p2 := fun X : World => rput_any m N X (by omega) (by omega) (by omega) (by omega)
    rw [ok_fit (by omega) f3] at p2
    have hg := getF_put f3
    have P1 := Lib.hid p1
    have P2 := Lib.hid p2
    have HG := Lib.hid hg
    have hm8 : m ≤ 8 := by omega
    have hm1 : 1 ≤ m := by omega
    clear p1 p2 hg f1 f2 f3
    go_enter Try.func6, Try.ntmps6
    go_wp2_with fail
    refine (P1.out _).mono ?_
    rintro e wa ⟨A, c, rfl, hown, hbel⟩
    have HR := Lib.hid (Reads.own hown)
    clear hown
    go_wp2_with fail
    refine (P2.out _).mono ?_
    rintro e wb ⟨B, d, rfl, hown2, hbel2⟩
    have HS := Lib.hid (Reads.own hown2)
    have s1 := hbel.size
    have s2 := hbel2.size
    have hb2 : Below w.heap.size w wb := hbel.trans (hbel2.mono s1)
    have HR2 := Lib.hid ((HR.out.keep hbel2).more s2)
    clear hown2
    have g1 : ∀ X : World, Below wb.heap.size wb X → Calls Try.prog 20 #[.slice A m c] X fun e w' => e = .returned (.tuple #[.int .u64 N, .int .i64 0]) ∧ Below X.heap.size X w' := fun X hX => by
      have := get_any A m c _ X ((HR2.out.keep hX).more hX.size) (putI_byte _ _) (by omega) hm1 hm8
      rwa [HG.out] at this
    have g2 : ∀ X : World, Below wb.heap.size wb X → Calls Try.prog 17 #[.slice A m c, .slice B m d] X fun e w' => e = .returned (.bool true) ∧ Below X.heap.size X w' := fun X hX => by
      have := same_any A B m m c d _ _ X ((HR2.out.keep hX).more hX.size) ((HS.out.keep hX).more hX.size) (by omega) (by omega)
      rwa [same_self] at this
    have G1 := Lib.hid g1
    have G2 := Lib.hid g2
    have s3 := hb2.size
    clear g1 g2 hbel hbel2
    go_wp2_with (first
      | (go_at_call 20; refine (G1.out _ (by repeat' (first | (with_reducible exact Below.refl _ _) | (with_reducible assumption) | (with_reducible refine Later.step ?_ ?_ _) | (with_reducible refine Below.alloc ?_ ?_ _) | (with_reducible refine Below.drew ?_) | (with_reducible refine bel_drewN ?_ _) | (with_reducible refine bel_grown ?_ (by assumption) ?_ ?_) | (with_reducible refine Below.setCell ?_ ?_ _) | go_size))).mono ?_; rintro e w' ⟨rfl, hb⟩; obtain ⟨X1, rfl, hl1, hm1⟩ := later (wb.heap.size) hb (by first | exact Nat.le_refl _ | go_size); clear hb; (try simp only [World.size_alloc, World.size_setCell, World.size_drew] at hm1))
      | (go_at_call 17; refine (G2.out _ (by repeat' (first | (with_reducible exact Below.refl _ _) | (with_reducible assumption) | (with_reducible refine Later.step ?_ ?_ _) | (with_reducible refine Below.alloc ?_ ?_ _) | (with_reducible refine Below.drew ?_) | (with_reducible refine bel_drewN ?_ _) | (with_reducible refine bel_grown ?_ (by assumption) ?_ ?_) | (with_reducible refine Below.setCell ?_ ?_ _) | go_size))).mono ?_; rintro e w' ⟨rfl, hb⟩; obtain ⟨X2, rfl, hl2, hm2⟩ := later (wb.heap.size) hb (by first | exact Nat.le_refl _ | go_size); clear hb; (try simp only [World.size_alloc, World.size_setCell, World.size_drew] at hm2))
      | (go_at_call 14; refine (known_any _).mono ?_; rintro e w' ⟨rfl, hb⟩; obtain ⟨X3, rfl, hl3, hm3⟩ := later (wb.heap.size) hb (by first | exact Nat.le_refl _ | go_size); clear hb; (try simp only [World.size_alloc, World.size_setCell, World.size_drew] at hm3)))
    go_ret
    exact ⟨rfl, by repeat' (first | (with_reducible exact Below.refl _ _) | (with_reducible assumption) | (with_reducible refine Later.step ?_ ?_ _) | (with_reducible refine Below.alloc ?_ ?_ _) | (with_reducible refine Below.drew ?_) | (with_reducible refine bel_drewN ?_ _) | (with_reducible refine bel_grown ?_ (by assumption) ?_ ?_) | (with_reducible refine Below.setCell ?_ ?_ _) | go_size)⟩
  · have p1 := fun X : World => put_none N wide X hno
    have P1 := Lib.hid p1
    clear p1
    by_cases hr : wide < 1 ∨ 8 < wide
    · have p2 := fun X : World => rput_none N wide X hr
      have P2 := Lib.hid p2
      clear p2 hno hr
      go_enter Try.func6, Try.ntmps6
      go_wp2_with (first
        | (go_at_call 15; refine (P1.out _).mono ?_; rintro e w' ⟨rfl, hb⟩; obtain ⟨X1, rfl, hl1, hm1⟩ := later (w.heap.size) hb (by first | exact Nat.le_refl _ | go_size); clear hb; (try simp only [World.size_alloc, World.size_setCell, World.size_drew] at hm1))
        | (go_at_call 19; refine (P2.out _).mono ?_; rintro e w' ⟨rfl, hb⟩; obtain ⟨X2, rfl, hl2, hm2⟩ := later (w.heap.size) hb (by first | exact Nat.le_refl _ | go_size); clear hb; (try simp only [World.size_alloc, World.size_setCell, World.size_drew] at hm2))
        | (go_at_call 14; refine (known_any _).mono ?_; rintro e w' ⟨rfl, hb⟩; obtain ⟨X3, rfl, hl3, hm3⟩ := later (w.heap.size) hb (by first | exact Nat.le_refl _ | go_size); clear hb; (try simp only [World.size_alloc, World.size_setCell, World.size_drew] at hm3)))
      go_ret
      exact ⟨rfl, by repeat' (first | (with_reducible exact Below.refl _ _) | (with_reducible assumption) | (with_reducible refine Later.step ?_ ?_ _) | (with_reducible refine Below.alloc ?_ ?_ _) | (with_reducible refine Below.drew ?_) | (with_reducible refine bel_drewN ?_ _) | (with_reducible refine bel_grown ?_ (by assumption) ?_ ?_) | (with_reducible refine Below.setCell ?_ ?_ _) | go_size)⟩
    · have hw1 : 1 ≤ wide := by omega
      obtain ⟨m, rfl⟩ := Int.eq_ofNat_of_zero_le (show 0 ≤ wide by omega)
      have hov : 256 ^ m ≤ N := by
        rcases Nat.lt_or_ge N (256 ^ m) with h | h
        · have := put_fit h
          rw [Int.toNat_natCast] at hno
          omega
        · exact h
      have p2 := fun X : World => rput_any m N X (by omega) (by omega) (by omega) (by omega)
      rw [ok_over (by omega) hov] at p2
      have P2 := Lib.hid p2
      clear p2 hno hr hov
      go_enter Try.func6, Try.ntmps6
      go_wp2_with fail
      refine (P1.out _).mono ?_
      rintro e w' ⟨rfl, hb⟩; obtain ⟨X1, rfl, hl1, hm1⟩ := later (w.heap.size) hb (by first | exact Nat.le_refl _ | go_size); clear hb; (try simp only [World.size_alloc, World.size_setCell, World.size_drew] at hm1)
      go_wp2_with fail
      refine (P2.out _).mono ?_
      rintro e wb ⟨B, d, rfl, hown2, hbel2⟩
      have s2 := hbel2.size
      have hb2 : Below w.heap.size w wb := X1.is.trans (hbel2.mono hl1)
      have s3 := hb2.size
      clear hown2 hbel2
      go_wp2_with (first
        | (go_at_call 14; refine (known_any _).mono ?_; rintro e w' ⟨rfl, hb⟩; obtain ⟨X3, rfl, hl3, hm3⟩ := later (wb.heap.size) hb (by first | exact Nat.le_refl _ | go_size); clear hb; (try simp only [World.size_alloc, World.size_setCell, World.size_drew] at hm3)))
      go_ret
      exact ⟨rfl, by repeat' (first | (with_reducible exact Below.refl _ _) | (with_reducible assumption) | (with_reducible refine Later.step ?_ ?_ _) | (with_reducible refine Below.alloc ?_ ?_ _) | (with_reducible refine Below.drew ?_) | (with_reducible refine bel_drewN ?_ _) | (with_reducible refine bel_grown ?_ (by assumption) ?_ ?_) | (with_reducible refine Below.setCell ?_ ?_ _) | go_size)⟩
set_option maxHeartbeats 4000000 in
theorem orders_walk (a b wide : Int) (w : World) (ha : (Lit.int .u64 a).wf = true) (hb : (Lit.int .u64 b).wf = true) (hw : (Lit.int .i64 wide).wf = true) :
    Calls Try.prog 4 #[.int .u64 a, .int .u64 b, .int .i64 wide] w fun e w' => e = .returned (.bool true) ∧ Below w.heap.size w w' := by
  obtain ⟨N, rfl⟩ := Int.eq_ofNat_of_zero_le (u64_lim ha).1
  have hN : N < 18446744073709551616 := by have := (u64_lim ha).2; omega
  obtain ⟨M, rfl⟩ := Int.eq_ofNat_of_zero_le (u64_lim hb).1
  have hM : M < 18446744073709551616 := by have := (u64_lim hb).2; omega
  clear ha hb hw
  rcases fit_cases N wide hN with hf | ⟨_, hno⟩
  · rcases fit_cases M wide hM with hg | ⟨_, hno⟩
    · obtain ⟨f1, f2, f3⟩ := hf
      obtain ⟨_, _, g3⟩ := hg
      obtain ⟨m, rfl⟩ := Int.eq_ofNat_of_zero_le (show 0 ≤ wide by omega)
      rw [Int.toNat_natCast] at f3 g3
      have P1 := Lib.hid (fun X : World => put_any N m X (by omega) (by omega) (by omega) (by omega) (fun _ => put_fit f3))
      have P2 := Lib.hid (fun X : World => put_any M m X (by omega) (by omega) (by omega) (by omega) (fun _ => put_fit g3))
      have HE := Lib.hid (same_puts f3 g3)
      have HL := Lib.hid (below_puts f3 g3)
      have hm8 : m ≤ 8 := by omega
      clear f1 f2 f3 g3
      go_enter Try.func4, Try.ntmps4
      go_wp2_with fail
      refine (P1.out _).mono ?_
      rintro e wa ⟨A, c, rfl, hown, hbel⟩
      have HR := Lib.hid (Reads.own hown)
      clear hown
      go_wp2_with fail
      refine (P2.out _).mono ?_
      rintro e wb ⟨B, d, rfl, hown2, hbel2⟩
      have HS := Lib.hid (Reads.own hown2)
      have s1 := hbel.size
      have s2 := hbel2.size
      have hb2 : Below w.heap.size w wb := hbel.trans (hbel2.mono s1)
      have HR2 := Lib.hid ((HR.out.keep hbel2).more s2)
      clear hown2
      have g1 : ∀ X : World, Below wb.heap.size wb X → Calls Try.prog 16 #[.slice A m c, .slice B m d] X fun e w' => e = .returned (.bool (decide (N < M))) ∧ Below X.heap.size X w' := fun X hX => by
        have := below_any A B m c d _ _ X ((HR2.out.keep hX).more hX.size) ((HS.out.keep hX).more hX.size) (by omega)
        rwa [HL.out] at this
      have g2 : ∀ X : World, Below wb.heap.size wb X → Calls Try.prog 17 #[.slice A m c, .slice B m d] X fun e w' => e = .returned (.bool (decide (N = M))) ∧ Below X.heap.size X w' := fun X hX => by
        have := same_any A B m m c d _ _ X ((HR2.out.keep hX).more hX.size) ((HS.out.keep hX).more hX.size) (by omega) (by omega)
        rwa [HE.out] at this
      have s3 := hb2.size
      clear hbel hbel2
      have hcase : N < M ∨ N = M ∨ M < N := by omega
      rcases hcase with h | h | h
      · have e1 : decide (N < M) = true := decide_eq_true h
        have e2 : decide (N = M) = false := decide_eq_false (by omega)
        have e3 : ((N : Int) == (M : Int)) = false := by rw [Bool.eq_false_iff]; intro h'; have := eq_e h'; omega
        have e4 : (N : Int) < (M : Int) := by omega
        rw [e1] at g1
        rw [e2] at g2
        have G1 := Lib.hid g1
        have G2 := Lib.hid g2
        clear g1 g2 e1 e2
        go_wp2_with (first
          | (go_at_call 16; refine (G1.out _ (by repeat' (first | (with_reducible exact Below.refl _ _) | (with_reducible assumption) | (with_reducible refine Later.step ?_ ?_ _) | (with_reducible refine Below.alloc ?_ ?_ _) | (with_reducible refine Below.drew ?_) | (with_reducible refine bel_drewN ?_ _) | (with_reducible refine bel_grown ?_ (by assumption) ?_ ?_) | (with_reducible refine Below.setCell ?_ ?_ _) | go_size))).mono ?_; rintro e w' ⟨rfl, hb⟩; obtain ⟨X1, rfl, hl1, hm1⟩ := later (wb.heap.size) hb (by first | exact Nat.le_refl _ | go_size); clear hb; (try simp only [World.size_alloc, World.size_setCell, World.size_drew] at hm1))
          | (go_at_call 17; refine (G2.out _ (by repeat' (first | (with_reducible exact Below.refl _ _) | (with_reducible assumption) | (with_reducible refine Later.step ?_ ?_ _) | (with_reducible refine Below.alloc ?_ ?_ _) | (with_reducible refine Below.drew ?_) | (with_reducible refine bel_drewN ?_ _) | (with_reducible refine bel_grown ?_ (by assumption) ?_ ?_) | (with_reducible refine Below.setCell ?_ ?_ _) | go_size))).mono ?_; rintro e w' ⟨rfl, hb⟩; obtain ⟨X2, rfl, hl2, hm2⟩ := later (wb.heap.size) hb (by first | exact Nat.le_refl _ | go_size); clear hb; (try simp only [World.size_alloc, World.size_setCell, World.size_drew] at hm2))
          | (go_at_call 14; refine (known_any _).mono ?_; rintro e w' ⟨rfl, hb⟩; obtain ⟨X3, rfl, hl3, hm3⟩ := later (wb.heap.size) hb (by first | exact Nat.le_refl _ | go_size); clear hb; (try simp only [World.size_alloc, World.size_setCell, World.size_drew] at hm3)))
        go_ret
        exact ⟨rfl, by repeat' (first | (with_reducible exact Below.refl _ _) | (with_reducible assumption) | (with_reducible refine Later.step ?_ ?_ _) | (with_reducible refine Below.alloc ?_ ?_ _) | (with_reducible refine Below.drew ?_) | (with_reducible refine bel_drewN ?_ _) | (with_reducible refine bel_grown ?_ (by assumption) ?_ ?_) | (with_reducible refine Below.setCell ?_ ?_ _) | go_size)⟩
      · subst h
        have e1 : decide (N < N) = false := decide_eq_false (by omega)
        have e2 : decide (N = N) = true := decide_eq_true rfl
        have e4 : ¬ (N : Int) < (N : Int) := by omega
        rw [e1] at g1
        rw [e2] at g2
        have G1 := Lib.hid g1
        have G2 := Lib.hid g2
        clear g1 g2 e1 e2
        go_wp2_with (first
          | (go_at_call 16; refine (G1.out _ (by repeat' (first | (with_reducible exact Below.refl _ _) | (with_reducible assumption) | (with_reducible refine Later.step ?_ ?_ _) | (with_reducible refine Below.alloc ?_ ?_ _) | (with_reducible refine Below.drew ?_) | (with_reducible refine bel_drewN ?_ _) | (with_reducible refine bel_grown ?_ (by assumption) ?_ ?_) | (with_reducible refine Below.setCell ?_ ?_ _) | go_size))).mono ?_; rintro e w' ⟨rfl, hb⟩; obtain ⟨X1, rfl, hl1, hm1⟩ := later (wb.heap.size) hb (by first | exact Nat.le_refl _ | go_size); clear hb; (try simp only [World.size_alloc, World.size_setCell, World.size_drew] at hm1))
          | (go_at_call 17; refine (G2.out _ (by repeat' (first | (with_reducible exact Below.refl _ _) | (with_reducible assumption) | (with_reducible refine Later.step ?_ ?_ _) | (with_reducible refine Below.alloc ?_ ?_ _) | (with_reducible refine Below.drew ?_) | (with_reducible refine bel_drewN ?_ _) | (with_reducible refine bel_grown ?_ (by assumption) ?_ ?_) | (with_reducible refine Below.setCell ?_ ?_ _) | go_size))).mono ?_; rintro e w' ⟨rfl, hb⟩; obtain ⟨X2, rfl, hl2, hm2⟩ := later (wb.heap.size) hb (by first | exact Nat.le_refl _ | go_size); clear hb; (try simp only [World.size_alloc, World.size_setCell, World.size_drew] at hm2))
          | (go_at_call 14; refine (known_any _).mono ?_; rintro e w' ⟨rfl, hb⟩; obtain ⟨X3, rfl, hl3, hm3⟩ := later (wb.heap.size) hb (by first | exact Nat.le_refl _ | go_size); clear hb; (try simp only [World.size_alloc, World.size_setCell, World.size_drew] at hm3)))
        go_ret
        exact ⟨rfl, by repeat' (first | (with_reducible exact Below.refl _ _) | (with_reducible assumption) | (with_reducible refine Later.step ?_ ?_ _) | (with_reducible refine Below.alloc ?_ ?_ _) | (with_reducible refine Below.drew ?_) | (with_reducible refine bel_drewN ?_ _) | (with_reducible refine bel_grown ?_ (by assumption) ?_ ?_) | (with_reducible refine Below.setCell ?_ ?_ _) | go_size)⟩
      · have e1 : decide (N < M) = false := decide_eq_false (by omega)
        have e2 : decide (N = M) = false := decide_eq_false (by omega)
        have e3 : ((N : Int) == (M : Int)) = false := by rw [Bool.eq_false_iff]; intro h'; have := eq_e h'; omega
        have e4 : ¬ N < M := by omega
        rw [e1] at g1
        rw [e2] at g2
        have G1 := Lib.hid g1
        have G2 := Lib.hid g2
        clear g1 g2 e1 e2
        go_wp2_with (first
          | (go_at_call 16; refine (G1.out _ (by repeat' (first | (with_reducible exact Below.refl _ _) | (with_reducible assumption) | (with_reducible refine Later.step ?_ ?_ _) | (with_reducible refine Below.alloc ?_ ?_ _) | (with_reducible refine Below.drew ?_) | (with_reducible refine bel_drewN ?_ _) | (with_reducible refine bel_grown ?_ (by assumption) ?_ ?_) | (with_reducible refine Below.setCell ?_ ?_ _) | go_size))).mono ?_; rintro e w' ⟨rfl, hb⟩; obtain ⟨X1, rfl, hl1, hm1⟩ := later (wb.heap.size) hb (by first | exact Nat.le_refl _ | go_size); clear hb; (try simp only [World.size_alloc, World.size_setCell, World.size_drew] at hm1))
          | (go_at_call 17; refine (G2.out _ (by repeat' (first | (with_reducible exact Below.refl _ _) | (with_reducible assumption) | (with_reducible refine Later.step ?_ ?_ _) | (with_reducible refine Below.alloc ?_ ?_ _) | (with_reducible refine Below.drew ?_) | (with_reducible refine bel_drewN ?_ _) | (with_reducible refine bel_grown ?_ (by assumption) ?_ ?_) | (with_reducible refine Below.setCell ?_ ?_ _) | go_size))).mono ?_; rintro e w' ⟨rfl, hb⟩; obtain ⟨X2, rfl, hl2, hm2⟩ := later (wb.heap.size) hb (by first | exact Nat.le_refl _ | go_size); clear hb; (try simp only [World.size_alloc, World.size_setCell, World.size_drew] at hm2))
          | (go_at_call 14; refine (known_any _).mono ?_; rintro e w' ⟨rfl, hb⟩; obtain ⟨X3, rfl, hl3, hm3⟩ := later (wb.heap.size) hb (by first | exact Nat.le_refl _ | go_size); clear hb; (try simp only [World.size_alloc, World.size_setCell, World.size_drew] at hm3)))
        go_ret
        exact ⟨rfl, by repeat' (first | (with_reducible exact Below.refl _ _) | (with_reducible assumption) | (with_reducible refine Later.step ?_ ?_ _) | (with_reducible refine Below.alloc ?_ ?_ _) | (with_reducible refine Below.drew ?_) | (with_reducible refine bel_drewN ?_ _) | (with_reducible refine bel_grown ?_ (by assumption) ?_ ?_) | (with_reducible refine Below.setCell ?_ ?_ _) | go_size)⟩
    · obtain ⟨f1, f2, f3⟩ := hf
      obtain ⟨m, rfl⟩ := Int.eq_ofNat_of_zero_le (show 0 ≤ wide by omega)
      rw [Int.toNat_natCast] at f3
      have P1 := Lib.hid (fun X : World => put_any N m X (by omega) (by omega) (by omega) (by omega) (fun _ => put_fit f3))
      have P2 := Lib.hid (fun X : World => put_none M m X hno)
      clear f1 f2 f3 hno
      go_enter Try.func4, Try.ntmps4
      go_wp2_with fail
      refine (P1.out _).mono ?_
      rintro e wa ⟨A, c, rfl, hown, hbel⟩
      have s1 := hbel.size
      clear hown
      go_wp2_with fail
      refine (P2.out _).mono ?_
      rintro e w' ⟨rfl, hb⟩; obtain ⟨X2, rfl, hl2, hm2⟩ := later (wa.heap.size) hb (by first | exact Nat.le_refl _ | go_size); clear hb; (try simp only [World.size_alloc, World.size_setCell, World.size_drew] at hm2)
      go_wp2_with (first
        | (go_at_call 14; refine (known_any _).mono ?_; rintro e w' ⟨rfl, hb⟩; obtain ⟨X3, rfl, hl3, hm3⟩ := later (wa.heap.size) hb (by first | exact Nat.le_refl _ | go_size); clear hb; (try simp only [World.size_alloc, World.size_setCell, World.size_drew] at hm3)))
      go_ret
      exact ⟨rfl, by repeat' (first | (with_reducible exact Below.refl _ _) | (with_reducible assumption) | (with_reducible refine Later.step ?_ ?_ _) | (with_reducible refine Below.alloc ?_ ?_ _) | (with_reducible refine Below.drew ?_) | (with_reducible refine bel_drewN ?_ _) | (with_reducible refine bel_grown ?_ (by assumption) ?_ ?_) | (with_reducible refine Below.setCell ?_ ?_ _) | go_size)⟩
  · have P1 := Lib.hid (fun X : World => put_none N wide X hno)
    rcases fit_cases M wide hM with hg | ⟨_, hno2⟩
    · obtain ⟨f1, f2, f3⟩ := hg
      obtain ⟨m, rfl⟩ := Int.eq_ofNat_of_zero_le (show 0 ≤ wide by omega)
      rw [Int.toNat_natCast] at f3
      have P2 := Lib.hid (fun X : World => put_any M m X (by omega) (by omega) (by omega) (by omega) (fun _ => put_fit f3))
      clear f1 f2 f3 hno
      go_enter Try.func4, Try.ntmps4
      go_wp2_with fail
      refine (P1.out _).mono ?_
      rintro e w' ⟨rfl, hb⟩; obtain ⟨X1, rfl, hl1, hm1⟩ := later (w.heap.size) hb (by first | exact Nat.le_refl _ | go_size); clear hb; (try simp only [World.size_alloc, World.size_setCell, World.size_drew] at hm1)
      go_wp2_with fail
      refine (P2.out _).mono ?_
      rintro e wa ⟨A, c, rfl, hown, hbel⟩
      have s1 := hbel.size
      have hb2 : Below w.heap.size w wa := X1.is.trans (hbel.mono hl1)
      have s3 := hb2.size
      clear hown hbel
      go_wp2_with (first
        | (go_at_call 14; refine (known_any _).mono ?_; rintro e w' ⟨rfl, hb⟩; obtain ⟨X3, rfl, hl3, hm3⟩ := later (wa.heap.size) hb (by first | exact Nat.le_refl _ | go_size); clear hb; (try simp only [World.size_alloc, World.size_setCell, World.size_drew] at hm3)))
      go_ret
      exact ⟨rfl, by repeat' (first | (with_reducible exact Below.refl _ _) | (with_reducible assumption) | (with_reducible refine Later.step ?_ ?_ _) | (with_reducible refine Below.alloc ?_ ?_ _) | (with_reducible refine Below.drew ?_) | (with_reducible refine bel_drewN ?_ _) | (with_reducible refine bel_grown ?_ (by assumption) ?_ ?_) | (with_reducible refine Below.setCell ?_ ?_ _) | go_size)⟩
    · have P2 := Lib.hid (fun X : World => put_none M wide X hno2)
      clear hno hno2
      go_enter Try.func4, Try.ntmps4
      go_wp2_with fail
      refine (P1.out _).mono ?_
      rintro e w' ⟨rfl, hb⟩; obtain ⟨X1, rfl, hl1, hm1⟩ := later (w.heap.size) hb (by first | exact Nat.le_refl _ | go_size); clear hb; (try simp only [World.size_alloc, World.size_setCell, World.size_drew] at hm1)
      go_wp2_with fail
      refine (P2.out _).mono ?_
      rintro e w' ⟨rfl, hb⟩; obtain ⟨X2, rfl, hl2, hm2⟩ := later (w.heap.size) hb (by first | exact Nat.le_refl _ | go_size); clear hb; (try simp only [World.size_alloc, World.size_setCell, World.size_drew] at hm2)
      go_wp2_with (first
        | (go_at_call 14; refine (known_any _).mono ?_; rintro e w' ⟨rfl, hb⟩; obtain ⟨X3, rfl, hl3, hm3⟩ := later (w.heap.size) hb (by first | exact Nat.le_refl _ | go_size); clear hb; (try simp only [World.size_alloc, World.size_setCell, World.size_drew] at hm3)))
      go_ret
      exact ⟨rfl, by repeat' (first | (with_reducible exact Below.refl _ _) | (with_reducible assumption) | (with_reducible refine Later.step ?_ ?_ _) | (with_reducible refine Below.alloc ?_ ?_ _) | (with_reducible refine Below.drew ?_) | (with_reducible refine bel_drewN ?_ _) | (with_reducible refine bel_grown ?_ (by assumption) ?_ ?_) | (with_reducible refine Below.setCell ?_ ?_ _) | go_size)⟩
end Go.Proofs.Ytdhecljfjecefaa
