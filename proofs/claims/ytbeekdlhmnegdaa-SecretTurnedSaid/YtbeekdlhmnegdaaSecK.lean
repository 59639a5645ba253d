/- A secret's text, and the layer's fixed calls, walked. No condition. -/
import Derived.Test.YtbeekdlhmnegdaaSecB
import Derived.Test.YtbeekdlhmnegdaaRep
import Derived.Test.YtbeekdlhmnegdaaNumG
import Derived.Lib.Agree
namespace Go.Proofs.Ytbeekdlhmnegdaa
open Go.RowKit Go.Shelf
set_option linter.unusedSimpArgs false
set_option linter.unusedVariables false

theorem extraB : Builder.Extra Try.prog Try.laysRepeat_ren where
  sizeBuilder := by kernel_rfl
  liesBuilder := by kernel_rfl
  t5 := Try.laysRepeat.t5
  a5 := Try.laysRepeat.a5
  z5 := Try.laysRepeat.z5
  v5 := Try.laysRepeat.v5
  infoByte := by kernel_rfl
  cellsByte := by kernel_rfl
  sizeByte := by kernel_rfl
  neB5 := by decide
theorem fRep : Try.laysRepeat_ren.f 105 = 19 := by kernel_rfl
def stars : ByteArray := ⟨#[42, 42, 42, 42, 42, 42, 42, 42, 42, 42, 42, 42, 42, 42]⟩
theorem rep_any (w : World) : Calls Try.prog 19 #[.string ⟨#[42]⟩, .int .i64 14] w fun e w' => e = .returned (.string stars) ∧ Below w.heap.size w w' := by
  have h := Any.strings_Repeat Try.laysRepeat extraB ⟨#[42]⟩ 14 w (by omega) (by decide)
  rw [fRep] at h
  exact h
def maskT (n : Nat) : ByteArray := (txt (hexF 16 n)).extract 0 2 ++ stars
theorem maskT_size (n : Nat) : (maskT n).size = 16 := by
  have h : (txt (hexF 16 n)).size = 16 := by rw [txt_size, hexF_len]
  unfold maskT
  rw [ByteArray.size_append, ByteArray.size_extract, h]
  rfl
set_option maxHeartbeats 4000000 in
theorem mask_any (n : Nat) (w : World) (hn : n < 18446744073709551616) : Calls Try.prog 12 #[.int .u64 n] w fun e w' => e = .returned (.string (maskT n)) ∧ Below w.heap.size w w' := by
  have p1 := fun X : World => hex_any n X hn
  have hz : (txt (hexF 16 n)).size = 16 := by rw [txt_size, hexF_len]
  unfold maskT
  generalize txt (hexF 16 n) = t at *
  have P1 := Lib.hid p1
  have P2 := Lib.hid (fun X : World => rep_any X)
  clear p1
  have hu : stars.size = 14 := rfl
  have hx : (t.extract 0 2).size = 2 := by rw [ByteArray.size_extract, hz]; rfl
  generalize stars = u at *
  go_enter Try.func12, Try.ntmps12
  go_wp2
  (refine wp_region_later (w.heap.size) (by kernel_rfl) (by kernel_rfl) (by go_size) ?_; (repeat (go_big_quiet_step ((first | (go_at_call 18; exact Later.call _ (Nat.le_trans (by go_size) (Later.is _).size) (P1.out _)) | (go_at_call 19; exact Later.call _ (Nat.le_trans (by go_size) (Later.is _).size) (P2.out _)))))); refine wpQuiet_nil ?_; intro Xq hlq hmq)
  go_wp2
  go_ret
  exact ⟨rfl, by repeat' (first | (with_reducible exact Below.refl _ _) | (with_reducible assumption) | (with_reducible refine Later.step ?_ ?_ _) | (with_reducible refine Below.alloc ?_ ?_ _) | (with_reducible refine Below.drew ?_) | (with_reducible refine bel_drewN ?_ _) | (with_reducible refine bel_grown ?_ (by assumption) ?_ ?_) | (with_reducible refine Below.setCell ?_ ?_ _) | go_size)⟩
set_option maxHeartbeats 4000000 in
theorem rmask_any (n : Nat) (w : World) (hn : n < 18446744073709551616) : Calls Try.prog 13 #[.int .u64 n] w fun e w' => e = .returned (.string (maskT n)) ∧ Below w.heap.size w w' := by
  have p1 := fun X : World => rhex_any n X hn
  have hz : (txt (hexF 16 n)).size = 16 := by rw [txt_size, hexF_len]
  unfold maskT
  generalize txt (hexF 16 n) = t at *
  have P1 := Lib.hid p1
  clear p1
  go_enter Try.func13, Try.ntmps13
  go_wp2_with (first
    | (go_at_call 20; with_reducible refine (P1.out _).mono ?_; rintro e w' ⟨rfl, hb⟩; obtain ⟨X1, rfl, hl1, hm1⟩ := later (w.heap.size) hb (by first | exact Nat.le_refl _ | go_size); clear hb; (try simp only [World.size_alloc, World.size_setCell, World.size_drew] at hm1)))
  go_ret
  exact ⟨rfl, by repeat' (first | (with_reducible exact Below.refl _ _) | (with_reducible assumption) | (with_reducible refine Later.step ?_ ?_ _) | (with_reducible refine Below.alloc ?_ ?_ _) | (with_reducible refine Below.drew ?_) | (with_reducible refine bel_drewN ?_ _) | (with_reducible refine bel_grown ?_ (by assumption) ?_ ?_) | (with_reducible refine Below.setCell ?_ ?_ _) | go_size)⟩
def lstF (l : List Nat) (j : Nat) : Nat := l.getD j 0
set_option maxHeartbeats 4000000 in
theorem sknown_any (w : World) : Calls Try.prog 9 #[] w fun e w' => e = .returned (.bool true) ∧ Below w.heap.size w w' := by
  have p3 : ∀ X : World, Calls Try.prog 12 #[.int .u64 255] X fun e w' => e = .returned (.string ⟨#[48, 48, 42, 42, 42, 42, 42, 42, 42, 42, 42, 42, 42, 42, 42, 42]⟩) ∧ Below X.heap.size X w' := fun X => by
    have := mask_any 255 X (by omega)
    rw [show maskT 255 = ⟨#[48, 48, 42, 42, 42, 42, 42, 42, 42, 42, 42, 42, 42, 42, 42, 42]⟩ by decide] at this
    exact this
  have P3 := Lib.hid p3
  have P1 := Lib.hid (fun (X : World) (b : Nat) (hb : b < X.heap.size) (h0 : X.cell? ⟨b, 0, none⟩ = some (.int .u64 5)) (h1 : X.cell? ⟨b, 1, none⟩ = some (.int .u64 7)) (h2 : X.cell? ⟨b, 2, none⟩ = some (.int .u64 7)) =>
    find_any (some ⟨b, 0, none⟩) 3 3 (lstF [5, 7, 7]) 7 X (fun _ => ⟨b, 0, rfl, hb, fun j hj => by
      match j, hj with
      | 0, _ => exact h0
      | 1, _ => exact h1
      | 2, _ => exact h2⟩) (fun j => by match j with | 0 | 1 | 2 => decide | j + 3 => simp [lstF]) (by omega) (by omega))
  have P2 := Lib.hid (fun (X : World) (b : Nat) (hb : b < X.heap.size) (h0 : X.cell? ⟨b, 0, none⟩ = some (.int .u64 5)) (h1 : X.cell? ⟨b, 1, none⟩ = some (.int .u64 7)) (h2 : X.cell? ⟨b, 2, none⟩ = some (.int .u64 0)) =>
    find_any (some ⟨b, 0, none⟩) 3 3 (lstF [5, 7, 0]) 0 X (fun _ => ⟨b, 0, rfl, hb, fun j hj => by
      match j, hj with
      | 0, _ => exact h0
      | 1, _ => exact h1
      | 2, _ => exact h2⟩) (fun j => by match j with | 0 | 1 | 2 => decide | j + 3 => simp [lstF]) (by omega) (by omega))
  clear p3
  go_enter Try.func9, Try.ntmps9
  go_wp2_with fail
  refine (P1.out _ _ (by go_size) (by go_simp) (by go_simp) (by go_simp)).mono ?_
  rw [show fstI (lstF [5, 7, 7]) 7 3 = 1 by decide]
  rintro e w' ⟨rfl, hb⟩; obtain ⟨X1, rfl, hl1, hm1⟩ := later (w.heap.size) hb (by first | exact Nat.le_refl _ | go_size); clear hb; (try simp only [World.size_alloc, World.size_setCell, World.size_drew] at hm1)
  go_wp2_with fail
  refine (P2.out _ _ (by go_size) (by go_simp) (by go_simp) (by go_simp)).mono ?_
  rw [show fstI (lstF [5, 7, 0]) 0 3 = -1 by decide]
  rintro e w' ⟨rfl, hb⟩; obtain ⟨X2, rfl, hl2, hm2⟩ := later (w.heap.size) hb (by first | exact Nat.le_refl _ | go_size); clear hb; (try simp only [World.size_alloc, World.size_setCell, World.size_drew] at hm2)
  go_wp2_with (first
    | (go_at_call 12; with_reducible refine (P3.out _).mono ?_; rintro e w' ⟨rfl, hb⟩; obtain ⟨X3, rfl, hl3, hm3⟩ := later (w.heap.size) hb (by first | exact Nat.le_refl _ | go_size); clear hb; (try simp only [World.size_alloc, World.size_setCell, World.size_drew] at hm3)))
  go_ret
  exact ⟨rfl, by repeat' (first | (with_reducible exact Below.refl _ _) | (with_reducible assumption) | (with_reducible refine Later.step ?_ ?_ _) | (with_reducible refine Below.alloc ?_ ?_ _) | (with_reducible refine Below.drew ?_) | (with_reducible refine bel_drewN ?_ _) | (with_reducible refine bel_grown ?_ (by assumption) ?_ ?_) | (with_reducible refine Below.setCell ?_ ?_ _) | go_size)⟩
end Go.Proofs.Ytbeekdlhmnegdaa
