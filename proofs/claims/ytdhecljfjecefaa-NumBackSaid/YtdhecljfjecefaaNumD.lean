/- A number's text: the functions walked. No condition. -/
import Derived.Test.YtdhecljfjecefaaBytes
import Derived.Test.YtdhecljfjecefaaNumS
import Derived.Laws.BytesArg
namespace Go.Proofs.Ytdhecljfjecefaa
open Go.RowKit
set_option linter.unusedSimpArgs false
set_option linter.unusedVariables false

/-- The string of so many bytes. -/
def txt (l : List Nat) : ByteArray := ⟨(l.map UInt8.ofNat).toArray⟩
theorem txt_nums (l : List Nat) : strOfNums (l.map fun x => ((x : Nat) : Int)) = txt l := by
  unfold strOfNums txt
  simp [Function.comp_def]

/-- The row of a text while it is filled from its end: from place a on stands D. -/
def endC (D : List Nat) (a j : Nat) : Int := if a ≤ j then atI D (j - a) else 0

set_option maxHeartbeats 4000000 in
theorem text_any (N : Nat) (w : World) (hN : N < 18446744073709551616) :
    Calls Try.prog 12 #[.int .u64 N] w fun e w' => e = .returned (.string (txt (decL N))) ∧ Below w.heap.size w w' := by
  go_enter Try.func12, Try.ntmps12
  go_wp2
  go_loopw [0, 4] (fun v i wr => ∃ (m a : Nat) (D : List Nat), v = .int .u64 m ∧ i = .int .i64 ((a : Int) + 1) ∧ m < 18446744073709551616 ∧ a ≤ 19 ∧ Below w.heap.size w wr ∧ wr.heap.size = w.heap.size + 1
      ∧ Hid (m < 10 ^ (a + 1) ∧ decL N = decL m ++ D ∧ D.length = 19 - a ∧ ∀ j, j < 20 → wr.cell? ⟨w.heap.size, j, none⟩ = some (.int .u8 (endC D (a + 1) j)) ∧ wr.frozen? ⟨w.heap.size, j, none⟩ = false)) (fun _ i _ => (intOf i).toNat)
  case atStart =>
    refine ⟨N, 19, [], rfl, rfl, hN, by omega, by repeat' (first | (with_reducible exact Below.refl _ _) | (with_reducible assumption) | (with_reducible refine Later.step ?_ ?_ _) | (with_reducible refine Below.alloc ?_ ?_ _) | (with_reducible refine Below.drew ?_) | (with_reducible refine bel_drewN ?_ _) | (with_reducible refine bel_grown ?_ (by assumption) ?_ ?_) | (with_reducible refine Below.setCell ?_ ?_ _) | go_size), by simp, by omega, by simp, by simp, fun j hj => ?_⟩
    have e : endC [] (19 + 1) j = 0 := by unfold endC; rw [if_neg (by omega)]
    rw [e]
    clear e
    match j, hj with
    | 0, _ | 1, _ | 2, _ | 3, _ | 4, _ | 5, _ | 6, _ | 7, _ | 8, _ | 9, _ | 10, _ | 11, _ | 12, _ | 13, _ | 14, _ | 15, _ | 16, _ | 17, _ | 18, _ | 19, _ => go_simp
    | n + 20, h => omega
  case round =>
    obtain ⟨m, a, D, rfl, rfl, hm, ha2, hbel, hsz, hin⟩ := hrel
    obtain ⟨hc, hf⟩ := hin.out.2.2.2 a (by omega)
    have HZ := Lib.hid hsz
    have hA : (a : Int) ≤ 20 := by omega
    have hne : ¬ (20 = a) := by omega
    clear hsz
    go_wp2
    · have hq : (m : Int) / 10 = 0 := eq_e (by assumption)
      obtain ⟨i1, i2, i3, i4⟩ := hin.out
      have hcv := run_convert_bytes_arg (P := Try.prog) (wr.setCell ⟨w.heap.size, a, none⟩ (.int .u8 (48 + (m : Int) % 10))) 29 5 Try.underlying29 Try.underlying5 w.heap.size a (20 - a) (20 - a) (((48 + m % 10) :: D).map fun x => ((x : Nat) : Int)) (by simp; omega)
        (fun i hi => by
          by_cases e : i = 0
          · subst e
            rw [Nat.add_zero, World.cell?_setCell_same _ _ _ hc]
            simp
          · rw [World.cell?_setCell_other _ _ _ _ (by intro h; injection h with _ h2; omega), (i4 (a + i) (by omega)).1]
            obtain ⟨q, rfl⟩ : ∃ q, i = q + 1 := ⟨i - 1, by omega⟩
            unfold endC
            rw [if_pos (by omega), show a + (q + 1) - (a + 1) = q by omega]
            simp [atI, List.getD]
            cases D[q]? <;> rfl) 9 Try.underlying9
      rw [txt_nums] at hcv
      have hd : decL N = (48 + m % 10) :: D := by
        rw [i2, decL_step (by omega), if_pos (by omega), show m % 10 = m by omega]; rfl
      have HD := Lib.hid hd
      clear hd i1 i2 i3 i4 hq
      go_simp
      go_wp2
      go_ret
      exact ⟨by rw [HD.out]; rfl, by repeat' (first | (with_reducible exact Below.refl _ _) | (with_reducible assumption) | (with_reducible refine Later.step ?_ ?_ _) | (with_reducible refine Below.alloc ?_ ?_ _) | (with_reducible refine Below.drew ?_) | (with_reducible refine bel_drewN ?_ _) | (with_reducible refine bel_grown ?_ (by assumption) ?_ ?_) | (with_reducible refine Below.setCell ?_ ?_ _) | go_size)⟩
    · have hq : ¬ (m : Int) / 10 = 0 := ne_e (by assumption)
      go_roundw
      case rel =>
        obtain ⟨i1, i2, i3, i4⟩ := hin.out
        have hA0 : ∃ q, a = q + 1 := ⟨a - 1, by
          have : a ≠ 0 := by rintro rfl; omega
          omega⟩
        obtain ⟨q, rfl⟩ := hA0
        refine ⟨m / 10, q, (48 + m % 10) :: D, by simp, by go_num, by omega, by omega, by repeat' (first | (with_reducible exact Below.refl _ _) | (with_reducible assumption) | (with_reducible refine Later.step ?_ ?_ _) | (with_reducible refine Below.alloc ?_ ?_ _) | (with_reducible refine Below.drew ?_) | (with_reducible refine bel_drewN ?_ _) | (with_reducible refine bel_grown ?_ (by assumption) ?_ ?_) | (with_reducible refine Below.setCell ?_ ?_ _) | go_size), by rw [World.size_setCell]; exact HZ.out, ?_, ?_, by simp; omega, fun j hj => ?_⟩
        · rw [Nat.pow_succ] at i1; omega
        · rw [i2, decL_step (by omega), if_neg (by omega)]; simp
        · obtain ⟨h1, h2⟩ := i4 j hj
          rw [World.frozen?_setCell]
          refine ⟨?_, h2⟩
          by_cases e : j = q + 1
          · subst e
            rw [World.cell?_setCell_same _ _ _ hc]
            unfold endC
            rw [if_pos (by omega)]
            simp [atI]
          · rw [World.cell?_setCell_other _ _ _ _ (by intro h; injection h with _ h2; omega), h1]
            unfold endC
            by_cases e2 : q + 1 + 1 ≤ j
            · obtain ⟨t, rfl⟩ : ∃ t, j = q + 1 + 1 + t := ⟨j - (q + 1 + 1), by omega⟩
              rw [if_pos (by omega), if_pos (by omega), show q + 1 + 1 + t - (q + 1 + 1) = t by omega, show q + 1 + 1 + t - (q + 1) = t + 1 by omega]
              simp [atI, List.getD]
            · rw [if_neg e2, if_neg (by omega)]
      case measure => simp [intOf] <;> omega
theorem txt_app (a b : List Nat) : txt a ++ txt b = txt (a ++ b) := by
  apply ByteArray.ext
  simp [txt, ByteArray.data_append]
theorem txt_size (l : List Nat) : (txt l).size = l.length := by simp [txt, ByteArray.size]
theorem decF_len : ∀ (f n : Nat), (decF f n).length ≤ f
  | 0, _ => by simp [decF]
  | f + 1, n => by
    rw [decF]
    split
    · simp
    · have := decF_len f (n / 10); simp; omega
theorem dig_cut {k : Nat} (h : k < 10) : (⟨#[48, 49, 50, 51, 52, 53, 54, 55, 56, 57]⟩ : ByteArray).extract k (k + 1) = txt [48 + k] := by
  match k, h with
  | 0, _ | 1, _ | 2, _ | 3, _ | 4, _ | 5, _ | 6, _ | 7, _ | 8, _ | 9, _ => rfl
  | n + 10, h => omega

set_option maxHeartbeats 4000000 in
theorem rtext_any : ∀ (f n : Nat) (w : World), 0 < f → f ≤ 20 → n < 10 ^ f → n < 18446744073709551616 →
    Calls Try.prog 13 #[.int .u64 n] w fun e w' => e = .returned (.string (txt (decF f n))) ∧ Below w.heap.size w w' := by
  intro f
  induction f with
  | zero => intro n w h; omega
  | succ f ih =>
    intro n w _ hf20 hn hn64
    have hk : n % 10 < 10 := by omega
    have he := dig_cut hk
    have HE := Lib.hid he
    by_cases h : n < 10
    · clear ih he
      have hd : decF (f + 1) n = [48 + n % 10] := by rw [decF, if_pos h, show n % 10 = n by omega]
      have HD := Lib.hid hd
      clear hd
      go_enter Try.func13, Try.ntmps13
      go_wp2
      go_ret
      exact ⟨by rw [HD.out, ← HE.out]; rfl, by repeat' (first | (with_reducible exact Below.refl _ _) | (with_reducible assumption) | (with_reducible refine Later.step ?_ ?_ _) | (with_reducible refine Below.alloc ?_ ?_ _) | (with_reducible refine Below.drew ?_) | (with_reducible refine bel_drewN ?_ _) | (with_reducible refine bel_grown ?_ (by assumption) ?_ ?_) | (with_reducible refine Below.setCell ?_ ?_ _) | go_size)⟩
    · have hf : 0 < f := by
        rcases Nat.eq_zero_or_pos f with rfl | hf
        · simp at hn; omega
        · exact hf
      have hd : decF (f + 1) n = decF f (n / 10) ++ [48 + n % 10] := by rw [decF, if_neg h]
      have hi : ∀ w : World, Calls Try.prog 13 #[.int .u64 ((n : Int) / 10)] w fun e w' => e = .returned (.string (txt (decF f (n / 10)))) ∧ Below w.heap.size w w' := fun w => by
        have := ih (n / 10) w hf (by omega) (by rw [Nat.pow_succ] at hn; omega) (by omega)
        rwa [show ((n / 10 : Nat) : Int) = (n : Int) / 10 by omega] at this
      have IH := Lib.hid hi
      have HD := Lib.hid hd
      have hr0 : (0 : Int) ≤ (n : Int) % 10 := by omega
      have hr1 : (n : Int) % 10 ≤ 9 := by omega
      have hs1 : (txt (decF f (n / 10))).size ≤ 20 := by rw [txt_size]; exact Nat.le_trans (decF_len _ _) (by omega)
      have hs2 : (txt [48 + n % 10]).size ≤ 20 := by rw [txt_size]; simp
      clear ih hd hi hf
      go_enter Try.func13, Try.ntmps13
      go_wp2_with fail
      (refine wp_region_later (w.heap.size) (by kernel_rfl) (by kernel_rfl) (by go_size) ?_; (repeat (go_big_quiet_step ((first | (go_at_call 13; exact Later.call _ (Nat.le_trans (by go_size) (Later.is _).size) (IH.out _)))))); refine wpQuiet_nil ?_; intro Xq hlq hmq)
      go_wp2
      go_ret
      exact ⟨by rw [HD.out, ← txt_app]; rfl, by repeat' (first | (with_reducible exact Below.refl _ _) | (with_reducible assumption) | (with_reducible refine Later.step ?_ ?_ _) | (with_reducible refine Below.alloc ?_ ?_ _) | (with_reducible refine Below.drew ?_) | (with_reducible refine bel_drewN ?_ _) | (with_reducible refine bel_grown ?_ (by assumption) ?_ ?_) | (with_reducible refine Below.setCell ?_ ?_ _) | go_size)⟩
end Go.Proofs.Ytdhecljfjecefaa
