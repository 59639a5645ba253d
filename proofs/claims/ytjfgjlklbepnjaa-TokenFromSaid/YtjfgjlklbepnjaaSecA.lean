/- Two numbers compared byte by byte: the functions walked. No condition beyond the slices' readings. -/
import Derived.Test.YtjfgjlklbepnjaaNumC
import Derived.Test.YtjfgjlklbepnjaaTail
import Derived.Laws.BitsAllLaws
namespace Go.Proofs.Ytjfgjlklbepnjaa
open Go.RowKit
set_option linter.unusedSimpArgs false
set_option linter.unusedVariables false

/-- What differs so far. -/
def orI (f g : Nat → Int) : Nat → Int
  | 0 => 0
  | k + 1 => bits .or .u8 (orI f g k) (bits .xor .u8 (f k) (g k))
theorem or_step {p a b : Int} (p0 : 0 ≤ p) (p1 : p ≤ 255) (a0 : 0 ≤ a) (a1 : a ≤ 255) (b0 : 0 ≤ b) (b1 : b ≤ 255) :
    0 ≤ bits .or .u8 p (bits .xor .u8 a b) ∧ bits .or .u8 p (bits .xor .u8 a b) ≤ 255 ∧ (bits .or .u8 p (bits .xor .u8 a b) = 0 ↔ p = 0 ∧ a = b) := by
  obtain ⟨p, rfl⟩ := Int.eq_ofNat_of_zero_le p0
  obtain ⟨a, rfl⟩ := Int.eq_ofNat_of_zero_le a0
  obtain ⟨b, rfl⟩ := Int.eq_ofNat_of_zero_le b0
  have hx : a ^^^ b < 256 := Nat.xor_lt_two_pow (n := 8) (by omega) (by omega)
  rw [u8_xor_nat a b (by omega) (by omega), u8_or_nat p _ (by omega) hx]
  have ho : p ||| (a ^^^ b) < 256 := Nat.or_lt_two_pow (n := 8) (by omega) hx
  refine ⟨by omega, by omega, ?_⟩
  constructor
  · intro h
    have h' : p ||| (a ^^^ b) = 0 := by omega
    rw [Nat.or_eq_zero_iff] at h'
    have h2 : a = b := by simpa [Nat.xor_assoc] using congrArg (· ^^^ b) h'.2
    omega
  · rintro ⟨h1, h2⟩
    have h1 : p = 0 := by omega
    have h2 : a = b := by omega
    subst h1 h2
    simp
theorem orI_bd {f g : Nat → Int} (hf : ∀ j, 0 ≤ f j ∧ f j ≤ 255) (hg : ∀ j, 0 ≤ g j ∧ g j ≤ 255) : ∀ k, 0 ≤ orI f g k ∧ orI f g k ≤ 255 ∧ (orI f g k = 0 ↔ ∀ j, j < k → f j = g j)
  | 0 => by simp [orI]
  | k + 1 => by
    obtain ⟨h0, h1, h2⟩ := orI_bd hf hg k
    obtain ⟨s0, s1, s2⟩ := or_step h0 h1 (hf k).1 (hf k).2 (hg k).1 (hg k).2
    refine ⟨s0, s1, ?_⟩
    rw [orI, s2, h2]
    constructor
    · rintro ⟨a, b⟩ j hj
      rcases Nat.lt_or_eq_of_le (Nat.le_of_lt_succ hj) with h | h
      · exact a j h
      · exact h ▸ b
    · exact fun h => ⟨fun j hj => h j (by omega), h k (by omega)⟩

/-- A comparer in memory, at block q. -/
structure Cmp (w : World) (q : Nat) (A C : Option Addr) (ca cc : Nat) (f g : Nat → Int) (p s : Int) : Prop where
  lt : q < w.heap.size
  c0 : w.cell? ⟨q, 0, none⟩ = some (.slice A 8 ca)
  c1 : w.cell? ⟨q, 1, none⟩ = some (.slice C 8 cc)
  c2 : w.cell? ⟨q, 2, none⟩ = some (.int .u8 p)
  c3 : w.cell? ⟨q, 3, none⟩ = some (.int .i64 s)
  z2 : w.frozen? ⟨q, 2, none⟩ = false
  z3 : w.frozen? ⟨q, 3, none⟩ = false
  ra : Reads .u8 w q A 8 f
  rc : Reads .u8 w q C 8 g

set_option maxHeartbeats 4000000 in
theorem step_any (q i : Nat) (A C : Option Addr) (ca cc : Nat) (f g : Nat → Int) (p s : Int) (w : World) (h : Cmp w q A C ca cc f g p s) (hi : i < 8) (s0 : 0 ≤ s) (s1 : s ≤ 100) :
    Calls Try.prog 65 #[.pointer (some ⟨q, 0, none⟩), .int .i64 i] w fun e w' => e = .returned (.tuple #[]) ∧ Below q w w' ∧ Cmp w' q A C ca cc f g (bits .or .u8 p (bits .xor .u8 (f i) (g i))) (s + 1) := by
  obtain ⟨hq, c0, c1, c2, c3, z2, z3, ra, rc⟩ := h
  obtain ⟨a, oa, rfl, ha, hca⟩ := ra (by omega)
  obtain ⟨c, oc, rfl, hc, hcc⟩ := rc (by omega)
  have RA := Lib.hid ra
  have RC := Lib.hid rc
  have xa := hca i hi
  have xc := hcc i hi
  have ha' : a < w.heap.size := by omega
  have hc' : c < w.heap.size := by omega
  have na : ¬ (⟨a, oa + i, none⟩ : Addr) = ⟨q, 2, none⟩ := by simp <;> omega
  have nc : ¬ (⟨c, oc + i, none⟩ : Addr) = ⟨q, 2, none⟩ := by simp <;> omega
  clear hca hcc ra rc
  go_enter Try.func65, Try.ntmps65
  go_wp2
  (refine wp_region_later_tail 22 (w.heap.size) (by kernel_rfl) (by kernel_rfl) (by go_size) ?_; simp only [List.take_succ_cons, List.take_zero, List.drop_succ_cons, List.drop_zero]; (repeat (go_big_quiet_step (fail))); refine wpQuiet_nil ?_; intro Xq hlq hmq)
  go_wp2
  go_end0
  refine ⟨rfl, ?_, ?_⟩
  · repeat' (first | (with_reducible exact Below.refl _ _) | (with_reducible assumption) | (with_reducible refine Later.step ?_ ?_ _) | (with_reducible refine Below.alloc ?_ ?_ _) | (with_reducible refine Below.drew ?_) | (with_reducible refine bel_drewN ?_ _) | (with_reducible refine bel_grown ?_ (by assumption) ?_ ?_) | (with_reducible refine Below.setCell ?_ ?_ _) | go_size)
  · refine ⟨by go_size, by go_simp, by go_simp, by go_simp, by go_simp, by go_simp, by go_simp, ?_, ?_⟩
    · exact RA.out.keep (by repeat' (first | (with_reducible exact Below.refl _ _) | (with_reducible assumption) | (with_reducible refine Later.step ?_ ?_ _) | (with_reducible refine Below.alloc ?_ ?_ _) | (with_reducible refine Below.drew ?_) | (with_reducible refine bel_drewN ?_ _) | (with_reducible refine bel_grown ?_ (by assumption) ?_ ?_) | (with_reducible refine Below.setCell ?_ ?_ _) | go_size))
    · exact RC.out.keep (by repeat' (first | (with_reducible exact Below.refl _ _) | (with_reducible assumption) | (with_reducible refine Later.step ?_ ?_ _) | (with_reducible refine Below.alloc ?_ ?_ _) | (with_reducible refine Below.drew ?_) | (with_reducible refine bel_drewN ?_ _) | (with_reducible refine bel_grown ?_ (by assumption) ?_ ?_) | (with_reducible refine Below.setCell ?_ ?_ _) | go_size))
set_option maxHeartbeats 4000000 in
theorem all_any (q : Nat) (A C : Option Addr) (ca cc : Nat) (f g : Nat → Int) (w : World) (h : Cmp w q A C ca cc f g 0 0) :
    Calls Try.prog 64 #[.pointer (some ⟨q, 0, none⟩), .func (.func 65) #[] #[]] w fun e w' => e = .returned (.tuple #[]) ∧ Below q w w' ∧ Cmp w' q A C ca cc f g (orI f g 8) 8 := by
  have H := Lib.hid h
  clear h
  go_enter Try.func64, Try.ntmps64
  go_wp2
  go_loopw [5] (fun i wr => ∃ k : Nat, k ≤ 8 ∧ i = .int .i64 k ∧ Hid (Below q w wr) ∧ Hid (Cmp wr q A C ca cc f g (orI f g k) k)) (fun i _ => 8 - (intOf i).toNat)
  case atStart => exact ⟨0, Nat.zero_le _, rfl, Below.refl _ _, H.out⟩
  case round =>
    obtain ⟨k, hk, rfl, hbel, hc⟩ := hrel
    by_cases hlt : k < 8
    · go_wp2_with (go_at_call 65; refine (step_any q k A C ca cc f g _ _ _ hc.out hlt (by omega) (by omega)).mono ?_; rintro e w' ⟨rfl, hb, hc'⟩)
      go_roundw
      case rel => exact ⟨k + 1, by omega, by go_num, hbel.out.trans hb, by push_cast; exact hc'⟩
      case measure => simp [intOf]; omega
    · obtain rfl : k = 8 := by omega
      go_wp2
      go_end0
      exact ⟨rfl, hbel.out, hc.out⟩
end Go.Proofs.Ytjfgjlklbepnjaa
