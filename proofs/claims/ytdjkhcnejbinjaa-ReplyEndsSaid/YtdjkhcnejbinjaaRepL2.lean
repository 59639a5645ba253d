/- Each answer has as many bytes as each other one: the statement walked. No condition beyond what the slices read as. -/
import Derived.Test.YtdjkhcnejbinjaaRepH
namespace Go.Proofs.Ytdjkhcnejbinjaa
open Go.RowKit
set_option linter.unusedSimpArgs false
set_option linter.unusedVariables false
set_option maxRecDepth 2000

/-- What Encode answers, whatever it is handed: two numbers to go on with. -/
def EncPost (op m : Int) (w : World) (e : Ending) (w' : World) : Prop :=
  ((∃ z, z ≠ 0 ∧ e = .returned (.tuple #[.slice none 0 0, .int .i64 z])) ∨ (∃ A c, e = .returned (.tuple #[.slice A (lengthI op m).toNat c, .int .i64 0]))) ∧ Below w.heap.size w w'
theorem encode_any (op m s k id x y lab b0 b1 b2 b3 : Int) (A1 A2 : Option Addr) (ns ne c1 c2 : Nat) (f g : Nat → Nat → Int) (w : World) (h1 : IsItems w w.heap.size A1 ns 6 f) (h2 : IsItems w w.heap.size A2 ne 4 g) (hn1 : ns ≤ 9223372036854775807) (hn2 : ne ≤ 9223372036854775807)
    (hk0 : 0 ≤ k) (hk1 : k ≤ 18446744073709551615) :
    Calls Try.prog 14 #[.int .i64 op, .int .i64 m, .agg #[.int .i64 s, .int .u64 k, .int .i64 id, .int .i64 x, .int .i64 y, .int .i64 lab, .int .i64 b0, .int .i64 b1, .int .i64 b2, .int .i64 b3, .slice A1 ns c1, .slice A2 ne c2]] w (EncPost op m w) := by
  by_cases ho : 1 ≤ op ∧ op ≤ 19
  · by_cases hf : fitsA op m s k id x y lab b0 b1 b2 b3 ns ne f g
    · exact (encode_ok op m s k id x y lab b0 b1 b2 b3 A1 A2 ns ne c1 c2 f g w h1 h2 hn1 hn2 hk0 hk1 hf).mono fun e w' ⟨A, c, he, _, hb⟩ => ⟨.inr ⟨A, c, he⟩, hb⟩
    · exact (encode_none op m s k id x y lab b0 b1 b2 b3 A1 A2 ns ne c1 c2 f g w h1 h2 hn1 hn2 ho hf).mono fun e w' ⟨he, hb⟩ => ⟨.inl ⟨1, by decide, he⟩, hb⟩
  · exact (encode_op op m s k id x y lab b0 b1 b2 b3 _ _ w ho).mono fun e w' ⟨he, hb⟩ => ⟨.inl ⟨51, by decide, he⟩, hb⟩
set_option maxHeartbeats 8000000 in
theorem law_same (op m s k id x y lab b0 b1 b2 b3 : Int) (A1 A2 : Option Addr) (ns ne c1 c2 : Nat) (f g : Nat → Nat → Int) (s' k' id' x' y' lab' b0' b1' b2' b3' : Int) (A1' A2' : Option Addr) (ns' ne' c1' c2' : Nat) (f' g' : Nat → Nat → Int) (w : World)
    (h1 : IsItems w w.heap.size A1 ns 6 f) (h2 : IsItems w w.heap.size A2 ne 4 g) (hn1 : ns ≤ 9223372036854775807) (hn2 : ne ≤ 9223372036854775807) (hk0 : 0 ≤ k) (hk1 : k ≤ 18446744073709551615)
    (h1' : IsItems w w.heap.size A1' ns' 6 f') (h2' : IsItems w w.heap.size A2' ne' 4 g') (hn1' : ns' ≤ 9223372036854775807) (hn2' : ne' ≤ 9223372036854775807) (hk0' : 0 ≤ k') (hk1' : k' ≤ 18446744073709551615) :
    Calls Try.prog 5 #[.int .i64 op, .int .i64 m, .agg #[.int .i64 s, .int .u64 k, .int .i64 id, .int .i64 x, .int .i64 y, .int .i64 lab, .int .i64 b0, .int .i64 b1, .int .i64 b2, .int .i64 b3, .slice A1 ns c1, .slice A2 ne c2], .agg #[.int .i64 s', .int .u64 k', .int .i64 id', .int .i64 x', .int .i64 y', .int .i64 lab', .int .i64 b0', .int .i64 b1', .int .i64 b2', .int .i64 b3', .slice A1' ns' c1', .slice A2' ne' c2']] w fun e w' => e = .returned (.bool true) ∧ Below w.heap.size w w' := by
  have P1 := Lib.hid (fun (Y : World) (hY : Below w.heap.size w Y) => encode_any op m s k id x y lab b0 b1 b2 b3 A1 A2 ns ne c1 c2 f g Y ((h1.keep hY).more hY.size) ((h2.keep hY).more hY.size) hn1 hn2 hk0 hk1)
  have P2 := Lib.hid (fun (Y : World) (hY : Below w.heap.size w Y) => encode_any op m s' k' id' x' y' lab' b0' b1' b2' b3' A1' A2' ns' ne' c1' c2' f' g' Y ((h1'.keep hY).more hY.size) ((h2'.keep hY).more hY.size) hn1' hn2' hk0' hk1')
  have P3 := Lib.hid (rlength_any op m)
  have hb := length_bd op m
  clear h1 h2 h1' h2'
  unfold EncPost at P1 P2
  obtain ⟨n, hn⟩ := Int.eq_ofNat_of_zero_le (show 0 ≤ lengthI op m by omega)
  rw [hn] at P1 P2 P3
  rw [Int.toNat_natCast] at P1 P2
  clear hn hb
  go_enter Try.func5, Try.ntmps5
  go_wp2_with fail
  refine (P1.out _ (by repeat' (first | (with_reducible exact Below.refl _ _) | (with_reducible assumption) | (with_reducible refine Later.step ?_ ?_ _) | (with_reducible refine Below.alloc ?_ ?_ _) | (with_reducible refine Below.drew ?_) | (with_reducible refine bel_drewN ?_ _) | (with_reducible refine bel_grown ?_ (by assumption) ?_ ?_) | (with_reducible refine Below.setCell ?_ ?_ _) | go_size))).mono ?_
  rintro e w1 ⟨hr, hb1⟩
  have hs1 := hb1.size
  simp only [World.size_alloc] at hs1
  have hB1 : Below (w.heap.size + 2) ((w.alloc (Obj.cells #[.int .i64 s, .int .u64 k, .int .i64 id, .int .i64 x, .int .i64 y, .int .i64 lab, .int .i64 b0, .int .i64 b1, .int .i64 b2, .int .i64 b3, .slice A1 ns c1, .slice A2 ne c2] 38)).alloc (Obj.cells #[.int .i64 s', .int .u64 k', .int .i64 id', .int .i64 x', .int .i64 y', .int .i64 lab', .int .i64 b0', .int .i64 b1', .int .i64 b2', .int .i64 b3', .slice A1' ns' c1', .slice A2' ne' c2'] 38)) w1 := hb1.mono (by go_size)
  obtain ⟨X1, rfl⟩ : ∃ Z : Later (w.heap.size + 2) ((w.alloc (Obj.cells #[.int .i64 s, .int .u64 k, .int .i64 id, .int .i64 x, .int .i64 y, .int .i64 lab, .int .i64 b0, .int .i64 b1, .int .i64 b2, .int .i64 b3, .slice A1 ns c1, .slice A2 ne c2] 38)).alloc (Obj.cells #[.int .i64 s', .int .u64 k', .int .i64 id', .int .i64 x', .int .i64 y', .int .i64 lab', .int .i64 b0', .int .i64 b1', .int .i64 b2', .int .i64 b3', .slice A1' ns' c1', .slice A2' ne' c2'] 38)), w1 = Z.w := ⟨⟨w1, hB1⟩, rfl⟩
  clear hb1 hB1
  rcases hr with ⟨z, hz, rfl⟩ | ⟨A, c, rfl⟩
  all_goals
    go_wp2_with fail
    refine (P2.out _ (by repeat' (first | (with_reducible exact Below.refl _ _) | (with_reducible assumption) | (with_reducible refine Later.step ?_ ?_ _) | (with_reducible refine Below.alloc ?_ ?_ _) | (with_reducible refine Below.drew ?_) | (with_reducible refine bel_drewN ?_ _) | (with_reducible refine bel_grown ?_ (by assumption) ?_ ?_) | (with_reducible refine Below.setCell ?_ ?_ _) | go_size))).mono ?_
    rintro e w2 ⟨hr, hb2⟩
    have hs2 := hb2.size
    obtain ⟨X2, rfl⟩ : ∃ Z : Later X1.w.heap.size X1.w, w2 = Z.w := ⟨⟨w2, hb2⟩, rfl⟩
    clear hb2
    rcases hr with ⟨z', hz', rfl⟩ | ⟨A', c', rfl⟩
    all_goals
      go_wp2_with (first
        | (go_at_call 9; refine (P3.out _).mono ?_; rintro e w' ⟨rfl, hb⟩; obtain ⟨X3, rfl, hl3, hm3⟩ := later (X2.w.heap.size) hb (by first | exact Nat.le_refl _ | go_size); clear hb; (try simp only [World.size_alloc, World.size_setCell, World.size_drew] at hm3))
        | (go_at_call 13; refine (pknown_any _).mono ?_; rintro e w' ⟨rfl, hb⟩; obtain ⟨X4, rfl, hl4, hm4⟩ := later (X2.w.heap.size) hb (by first | exact Nat.le_refl _ | go_size); clear hb; (try simp only [World.size_alloc, World.size_setCell, World.size_drew] at hm4)))
      go_ret
      exact ⟨rfl, by repeat' (first | (with_reducible exact Below.refl _ _) | (with_reducible assumption) | (with_reducible refine Later.step ?_ ?_ _) | (with_reducible refine Below.alloc ?_ ?_ _) | (with_reducible refine Below.drew ?_) | (with_reducible refine bel_drewN ?_ _) | (with_reducible refine bel_grown ?_ (by assumption) ?_ ?_) | (with_reducible refine Below.setCell ?_ ?_ _) | go_size)⟩
end Go.Proofs.Ytdjkhcnejbinjaa
