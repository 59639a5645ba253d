/- Any answer has its bytes, or does not fit: the statement walked. No condition beyond what the slices read as. -/
import Derived.Test.YtdjkhcnejbinjaaRepM
import Derived.Test.YtdjkhcnejbinjaaRepO
namespace Go.Proofs.Ytdjkhcnejbinjaa
open Go.RowKit
set_option linter.unusedSimpArgs false
set_option linter.unusedVariables false
set_option maxRecDepth 2000

theorem padL_len {l : List Nat} {n : Nat} (h : l.length ≤ n) : (padL l n).length = n := by
  unfold padL
  rw [List.length_append, List.length_replicate]
  omega
set_option maxHeartbeats 16000000 in
theorem encodes_law (op m s k id x y lab b0 b1 b2 b3 : Int) (A1 A2 : Option Addr) (ns ne c1 c2 : Nat) (f g : Nat → Nat → Int) (w : World) (h1 : IsItems w w.heap.size A1 ns 6 f) (h2 : IsItems w w.heap.size A2 ne 4 g) (hn1 : ns ≤ 9223372036854775807) (hn2 : ne ≤ 9223372036854775807)
    (hk0 : 0 ≤ k) (hk1 : k ≤ 18446744073709551615) :
    Calls Try.prog 4 #[.int .i64 op, .int .i64 m, .agg #[.int .i64 s, .int .u64 k, .int .i64 id, .int .i64 x, .int .i64 y, .int .i64 lab, .int .i64 b0, .int .i64 b1, .int .i64 b2, .int .i64 b3, .slice A1 ns c1, .slice A2 ne c2]] w fun e w' => e = .returned (.bool true) ∧ Below w.heap.size w w' := by
  have p1 := fun (Y : World) (hY : Below w.heap.size w Y) => rfitsA_any op m s k id x y lab b0 b1 b2 b3 A1 A2 ns ne c1 c2 f g Y ((h1.keep hY).more hY.size) ((h2.keep hY).more hY.size) hn1 hn2
  have p2 := fun (Y : World) (hY : Below w.heap.size w Y) => fitsA_any op m s k id x y lab b0 b1 b2 b3 A1 A2 ns ne c1 c2 f g Y ((h1.keep hY).more hY.size) ((h2.keep hY).more hY.size) hn1 hn2
  by_cases ho : 1 ≤ op ∧ op ≤ 19
  · by_cases hf : fitsA op m s k id x y lab b0 b1 b2 b3 ns ne f g
    · have p3 := fun (Y : World) (hY : Below w.heap.size w Y) => encode_ok op m s k id x y lab b0 b1 b2 b3 A1 A2 ns ne c1 c2 f g Y ((h1.keep hY).more hY.size) ((h2.keep hY).more hY.size) hn1 hn2 hk0 hk1 hf
      have p4 := fun (Y : World) (hY : Below w.heap.size w Y) => bytes_any op m s k id x y lab b0 b1 b2 b3 A1 A2 ns ne c1 c2 f g Y ((h1.keep hY).more hY.size) ((h2.keep hY).more hY.size) hk0 hk1 hf
      have hlen := encL_fits hf
      have hb := length_bd op m
      rw [decide_eq_true hf] at p1 p2
      obtain ⟨n, hn⟩ := Int.eq_ofNat_of_zero_le (show 0 ≤ lengthI op m by omega)
      rw [hn] at p3 p4 hlen hb
      rw [Int.toNat_natCast] at p3 p4
      unfold BytesPost at p4
      obtain ⟨L, hL⟩ : ∃ L, padL (encL op s k x y lab b0 b1 b2 b3 ns ne f g) n = L := ⟨_, rfl⟩
      have hLn : L.length = n := by rw [← hL]; exact padL_len (by omega)
      have hq : ∀ (Y : World) (A : Option Addr), Reads .u8 Y Y.heap.size A n (atI (padL (padL (encL op s k x y lab b0 b1 b2 b3 ns ne f g) n) n)) → Reads .u8 Y Y.heap.size A n (atI L) := fun Y A h => by
        rw [hL, padL_full hLn] at h
        exact h
      rw [hL] at p3 p4
      have P1 := Lib.hid p1
      have P2 := Lib.hid p2
      have P3 := Lib.hid p3
      have P4 := Lib.hid p4
      have HL := Lib.hid hLn
      have ho1 : ¬ op < 1 := by omega
      have ho2 : ¬ 19 < op := by omega
      clear p1 p2 p3 p4 h1 h2 hf hlen hn hL hLn hq ho
      go_enter Try.func4, Try.ntmps4
      go_wp2_with fail
      refine (P3.out _ (by repeat' (first | (with_reducible exact Below.refl _ _) | (with_reducible assumption) | (with_reducible refine Later.step ?_ ?_ _) | (with_reducible refine Below.alloc ?_ ?_ _) | (with_reducible refine Below.drew ?_) | (with_reducible refine bel_drewN ?_ _) | (with_reducible refine bel_grown ?_ (by assumption) ?_ ?_) | (with_reducible refine Below.setCell ?_ ?_ _) | go_size))).mono ?_
      rintro e w1 ⟨A, c, rfl, hR, hb1⟩
      have hs1 := hb1.size
      simp only [World.size_alloc] at hs1
      have hB1 : Below (w.heap.size + 1) (w.alloc (Obj.cells #[.int .i64 s, .int .u64 k, .int .i64 id, .int .i64 x, .int .i64 y, .int .i64 lab, .int .i64 b0, .int .i64 b1, .int .i64 b2, .int .i64 b3, .slice A1 ns c1, .slice A2 ne c2] 38)) w1 := hb1.mono (by go_size)
      have HR1 := Lib.hid hR
      obtain ⟨X1, rfl⟩ : ∃ Z : Later (w.heap.size + 1) (w.alloc (Obj.cells #[.int .i64 s, .int .u64 k, .int .i64 id, .int .i64 x, .int .i64 y, .int .i64 lab, .int .i64 b0, .int .i64 b1, .int .i64 b2, .int .i64 b3, .slice A1 ns c1, .slice A2 ne c2] 38)), w1 = Z.w := ⟨⟨w1, hB1⟩, rfl⟩
      clear hb1 hB1 hR
      go_wp2_with (first
        | (go_at_call 15; refine (P1.out _ (by repeat' (first | (with_reducible exact Below.refl _ _) | (with_reducible assumption) | (with_reducible refine Later.step ?_ ?_ _) | (with_reducible refine Below.alloc ?_ ?_ _) | (with_reducible refine Below.drew ?_) | (with_reducible refine bel_drewN ?_ _) | (with_reducible refine bel_grown ?_ (by assumption) ?_ ?_) | (with_reducible refine Below.setCell ?_ ?_ _) | go_size))).mono ?_; rintro e w' ⟨rfl, hb⟩; obtain ⟨X2, rfl, hl2, hm2⟩ := later (X1.w.heap.size) hb (by first | exact Nat.le_refl _ | go_size); clear hb; (try simp only [World.size_alloc, World.size_setCell, World.size_drew] at hm2))
        | (go_at_call 16; refine (P2.out _ (by repeat' (first | (with_reducible exact Below.refl _ _) | (with_reducible assumption) | (with_reducible refine Later.step ?_ ?_ _) | (with_reducible refine Below.alloc ?_ ?_ _) | (with_reducible refine Below.drew ?_) | (with_reducible refine bel_drewN ?_ _) | (with_reducible refine bel_grown ?_ (by assumption) ?_ ?_) | (with_reducible refine Below.setCell ?_ ?_ _) | go_size))).mono ?_; rintro e w' ⟨rfl, hb⟩; obtain ⟨X3, rfl, hl3, hm3⟩ := later (X2.w.heap.size) hb (by first | exact Nat.le_refl _ | go_size); clear hb; (try simp only [World.size_alloc, World.size_setCell, World.size_drew] at hm3)))
      refine (P4.out _ (by repeat' (first | (with_reducible exact Below.refl _ _) | (with_reducible assumption) | (with_reducible refine Later.step ?_ ?_ _) | (with_reducible refine Below.alloc ?_ ?_ _) | (with_reducible refine Below.drew ?_) | (with_reducible refine bel_drewN ?_ _) | (with_reducible refine bel_grown ?_ (by assumption) ?_ ?_) | (with_reducible refine Below.setCell ?_ ?_ _) | go_size))).mono ?_
      rintro e w4 ⟨⟨A4, c4, rfl, hR4⟩, hb4⟩
      have hs4 := hb4.size
      have HR4 := Lib.hid hR4
      obtain ⟨X4, rfl⟩ : ∃ Z : Later X3.w.heap.size X3.w, w4 = Z.w := ⟨⟨w4, hb4⟩, rfl⟩
      clear hb4 hR4
      have P5 := Lib.hid (show Calls Try.prog 11 #[.slice A n c, .slice A4 n c4] X4.w fun e w' => e = .returned (.bool true) ∧ Below X4.w.heap.size X4.w w' from by
        have h9 := lsame_any A A4 L L c c4 X4.w (by rw [HL.out]; exact (HR1.out.keep (show Below X1.w.heap.size X1.w X4.w by repeat' (first | (with_reducible exact Below.refl _ _) | (with_reducible assumption) | (with_reducible refine Later.step ?_ ?_ _) | (with_reducible refine Below.alloc ?_ ?_ _) | (with_reducible refine Below.drew ?_) | (with_reducible refine bel_drewN ?_ _) | (with_reducible refine bel_grown ?_ (by assumption) ?_ ?_) | (with_reducible refine Below.setCell ?_ ?_ _) | go_size))).more (show X1.w.heap.size ≤ X4.w.heap.size by go_size)) (by rw [HL.out]; exact HR4.out) (by rw [HL.out]; omega) (by rw [HL.out]; omega)
        rw [HL.out, decide_eq_true rfl] at h9
        exact h9)
      go_wp2_with (first
        | (go_at_call 11; refine P5.out.mono ?_; rintro e w' ⟨rfl, hb⟩; obtain ⟨X5, rfl, hl5, hm5⟩ := later (X4.w.heap.size) hb (by first | exact Nat.le_refl _ | go_size); clear hb; (try simp only [World.size_alloc, World.size_setCell, World.size_drew] at hm5))
        | (go_at_call 13; refine (pknown_any _).mono ?_; rintro e w' ⟨rfl, hb⟩; obtain ⟨X6, rfl, hl6, hm6⟩ := later (X5.w.heap.size) hb (by first | exact Nat.le_refl _ | go_size); clear hb; (try simp only [World.size_alloc, World.size_setCell, World.size_drew] at hm6)))
      go_ret
      exact ⟨rfl, by repeat' (first | (with_reducible exact Below.refl _ _) | (with_reducible assumption) | (with_reducible refine Later.step ?_ ?_ _) | (with_reducible refine Below.alloc ?_ ?_ _) | (with_reducible refine Below.drew ?_) | (with_reducible refine bel_drewN ?_ _) | (with_reducible refine bel_grown ?_ (by assumption) ?_ ?_) | (with_reducible refine Below.setCell ?_ ?_ _) | go_size)⟩
    · rw [decide_eq_false hf] at p1 p2
      have P1 := Lib.hid p1
      have P2 := Lib.hid p2
      have P3 := Lib.hid (fun (Y : World) (hY : Below w.heap.size w Y) => encode_none op m s k id x y lab b0 b1 b2 b3 A1 A2 ns ne c1 c2 f g Y ((h1.keep hY).more hY.size) ((h2.keep hY).more hY.size) hn1 hn2 ho hf)
      have ho1 : ¬ op < 1 := by omega
      have ho2 : ¬ 19 < op := by omega
      clear p1 p2 h1 h2 hf ho
      go_enter Try.func4, Try.ntmps4
      go_wp2_with (first
        | (go_at_call 14; refine (P3.out _ (by repeat' (first | (with_reducible exact Below.refl _ _) | (with_reducible assumption) | (with_reducible refine Later.step ?_ ?_ _) | (with_reducible refine Below.alloc ?_ ?_ _) | (with_reducible refine Below.drew ?_) | (with_reducible refine bel_drewN ?_ _) | (with_reducible refine bel_grown ?_ (by assumption) ?_ ?_) | (with_reducible refine Below.setCell ?_ ?_ _) | go_size))).mono ?_; rintro e w' ⟨rfl, hb⟩; obtain ⟨X1, rfl, hl1, hm1⟩ := later (w.heap.size + 1) hb (by first | exact Nat.le_refl _ | go_size); clear hb; (try simp only [World.size_alloc, World.size_setCell, World.size_drew] at hm1))
        | (go_at_call 15; refine (P1.out _ (by repeat' (first | (with_reducible exact Below.refl _ _) | (with_reducible assumption) | (with_reducible refine Later.step ?_ ?_ _) | (with_reducible refine Below.alloc ?_ ?_ _) | (with_reducible refine Below.drew ?_) | (with_reducible refine bel_drewN ?_ _) | (with_reducible refine bel_grown ?_ (by assumption) ?_ ?_) | (with_reducible refine Below.setCell ?_ ?_ _) | go_size))).mono ?_; rintro e w' ⟨rfl, hb⟩; obtain ⟨X2, rfl, hl2, hm2⟩ := later (X1.w.heap.size) hb (by first | exact Nat.le_refl _ | go_size); clear hb; (try simp only [World.size_alloc, World.size_setCell, World.size_drew] at hm2))
        | (go_at_call 16; refine (P2.out _ (by repeat' (first | (with_reducible exact Below.refl _ _) | (with_reducible assumption) | (with_reducible refine Later.step ?_ ?_ _) | (with_reducible refine Below.alloc ?_ ?_ _) | (with_reducible refine Below.drew ?_) | (with_reducible refine bel_drewN ?_ _) | (with_reducible refine bel_grown ?_ (by assumption) ?_ ?_) | (with_reducible refine Below.setCell ?_ ?_ _) | go_size))).mono ?_; rintro e w' ⟨rfl, hb⟩; obtain ⟨X3, rfl, hl3, hm3⟩ := later (X2.w.heap.size) hb (by first | exact Nat.le_refl _ | go_size); clear hb; (try simp only [World.size_alloc, World.size_setCell, World.size_drew] at hm3))
        | (go_at_call 13; refine (pknown_any _).mono ?_; rintro e w' ⟨rfl, hb⟩; obtain ⟨X4, rfl, hl4, hm4⟩ := later (X3.w.heap.size) hb (by first | exact Nat.le_refl _ | go_size); clear hb; (try simp only [World.size_alloc, World.size_setCell, World.size_drew] at hm4)))
      go_ret
      exact ⟨rfl, by repeat' (first | (with_reducible exact Below.refl _ _) | (with_reducible assumption) | (with_reducible refine Later.step ?_ ?_ _) | (with_reducible refine Below.alloc ?_ ?_ _) | (with_reducible refine Below.drew ?_) | (with_reducible refine bel_drewN ?_ _) | (with_reducible refine bel_grown ?_ (by assumption) ?_ ?_) | (with_reducible refine Below.setCell ?_ ?_ _) | go_size)⟩
  · have hf : ¬ fitsA op m s k id x y lab b0 b1 b2 b3 ns ne f g := fun h => by have := h.1; simp [thereB] at this; omega
    rw [decide_eq_false hf] at p1 p2
    have P1 := Lib.hid p1
    have P2 := Lib.hid p2
    have P3 := Lib.hid (fun (Y : World) => encode_op op m s k id x y lab b0 b1 b2 b3 (.slice A1 ns c1) (.slice A2 ne c2) Y ho)
    clear p1 p2 h1 h2 hf
    have hc : op < 1 ∨ (¬ op < 1 ∧ 19 < op) := by omega
    clear ho
    rcases hc with hc | ⟨hc, hc2⟩
    all_goals
      go_enter Try.func4, Try.ntmps4
      go_wp2_with (first
        | (go_at_call 14; refine (P3.out _).mono ?_; rintro e w' ⟨rfl, hb⟩; obtain ⟨X1, rfl, hl1, hm1⟩ := later (w.heap.size + 1) hb (by first | exact Nat.le_refl _ | go_size); clear hb; (try simp only [World.size_alloc, World.size_setCell, World.size_drew] at hm1))
        | (go_at_call 15; refine (P1.out _ (by repeat' (first | (with_reducible exact Below.refl _ _) | (with_reducible assumption) | (with_reducible refine Later.step ?_ ?_ _) | (with_reducible refine Below.alloc ?_ ?_ _) | (with_reducible refine Below.drew ?_) | (with_reducible refine bel_drewN ?_ _) | (with_reducible refine bel_grown ?_ (by assumption) ?_ ?_) | (with_reducible refine Below.setCell ?_ ?_ _) | go_size))).mono ?_; rintro e w' ⟨rfl, hb⟩; obtain ⟨X2, rfl, hl2, hm2⟩ := later (X1.w.heap.size) hb (by first | exact Nat.le_refl _ | go_size); clear hb; (try simp only [World.size_alloc, World.size_setCell, World.size_drew] at hm2))
        | (go_at_call 16; refine (P2.out _ (by repeat' (first | (with_reducible exact Below.refl _ _) | (with_reducible assumption) | (with_reducible refine Later.step ?_ ?_ _) | (with_reducible refine Below.alloc ?_ ?_ _) | (with_reducible refine Below.drew ?_) | (with_reducible refine bel_drewN ?_ _) | (with_reducible refine bel_grown ?_ (by assumption) ?_ ?_) | (with_reducible refine Below.setCell ?_ ?_ _) | go_size))).mono ?_; rintro e w' ⟨rfl, hb⟩; obtain ⟨X3, rfl, hl3, hm3⟩ := later (X2.w.heap.size) hb (by first | exact Nat.le_refl _ | go_size); clear hb; (try simp only [World.size_alloc, World.size_setCell, World.size_drew] at hm3))
        | (go_at_call 13; refine (pknown_any _).mono ?_; rintro e w' ⟨rfl, hb⟩; obtain ⟨X4, rfl, hl4, hm4⟩ := later (X3.w.heap.size) hb (by first | exact Nat.le_refl _ | go_size); clear hb; (try simp only [World.size_alloc, World.size_setCell, World.size_drew] at hm4)))
      go_ret
      exact ⟨rfl, by repeat' (first | (with_reducible exact Below.refl _ _) | (with_reducible assumption) | (with_reducible refine Later.step ?_ ?_ _) | (with_reducible refine Below.alloc ?_ ?_ _) | (with_reducible refine Below.drew ?_) | (with_reducible refine bel_drewN ?_ _) | (with_reducible refine bel_grown ?_ (by assumption) ?_ ?_) | (with_reducible refine Below.setCell ?_ ?_ _) | go_size)⟩
end Go.Proofs.Ytdjkhcnejbinjaa
