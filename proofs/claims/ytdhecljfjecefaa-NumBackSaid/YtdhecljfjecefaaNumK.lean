/- The layer's fixed calls walked, and what reading and writing answer of each other. No condition. -/
import Derived.Test.YtdhecljfjecefaaNumA
import Derived.Test.YtdhecljfjecefaaNumC
import Derived.Test.YtdhecljfjecefaaNumG
namespace Go.Proofs.Ytdhecljfjecefaa
open Go.RowKit Go.PlainAid
set_option linter.unusedSimpArgs false
set_option linter.unusedVariables false

set_option maxHeartbeats 4000000 in
theorem known_any (w : World) : Calls Try.prog 14 #[] w fun e w' => e = .returned (.bool true) ∧ Below w.heap.size w w' := by
  have p1 : ∀ X : World, Calls Try.prog 10 #[.string ⟨#[48, 48, 55]⟩] X fun e w' => e = .returned (.tuple #[.int .u64 0, .int .i64 10]) ∧ Below X.heap.size X w' := fun X => by
    have := parse_any ⟨#[48, 48, 55]⟩ X (by decide)
    rwa [show parseL (bl ⟨#[48, 48, 55]⟩) = 0 by decide, show errI (bl ⟨#[48, 48, 55]⟩) = 10 by decide] at this
  have p2 : ∀ X : World, Calls Try.prog 12 #[.int .u64 0] X fun e w' => e = .returned (.string ⟨#[48]⟩) ∧ Below X.heap.size X w' := fun X => text_any 0 X (by omega)
  have p3 : ∀ X : World, Calls Try.prog 23 #[.int .u64 255] X fun e w' => e = .returned (.string ⟨#[48, 48, 48, 48, 48, 48, 48, 48, 48, 48, 48, 48, 48, 48, 102, 102]⟩) ∧ Below X.heap.size X w' := fun X => by
    have := hex_any 255 X (by omega)
    rwa [show txt (hexF 16 255) = ⟨#[48, 48, 48, 48, 48, 48, 48, 48, 48, 48, 48, 48, 48, 48, 102, 102]⟩ by decide] at this
  have p4 : ∀ X : World, Calls Try.prog 18 #[.int .u64 18446744073709551615, .int .u64 1, .int .u64 9] X fun e w' => e = .returned (.int .u64 9) ∧ Below X.heap.size X w' := fun X => plus_any _ _ _ X (by omega) (by omega) (by omega) (by omega) (by omega) (by omega)
  have P1 := Lib.hid p1
  have P2 := Lib.hid p2
  have P3 := Lib.hid p3
  have P4 := Lib.hid p4
  clear p1 p2 p3 p4
  go_enter Try.func14, Try.ntmps14
  go_wp2_with fail
  refine (P1.out _).mono ?_
  rintro e w' ⟨rfl, hb⟩; obtain ⟨X1, rfl, hl1, hm1⟩ := later (w.heap.size) hb (by go_size); clear hb; (try simp only [World.size_alloc, World.size_setCell, World.size_drew] at hm1)
  go_wp2_with fail
  refine (put_any 258 2 _ (by omega) (by omega) (by omega) (by omega) (by decide)).mono ?_
  rintro e wp ⟨A, c, rfl, hown, hbel⟩
  have hr := Reads.own hown
  have HR := Lib.hid hr
  have hz := hbel.size
  have hbw : Below w.heap.size w wp := X1.is.trans (hbel.mono hl1)
  clear hown hr
  go_wp2_with fail
  refine (P2.out _).mono ?_
  rintro e w' ⟨rfl, hb⟩
  obtain ⟨X2, rfl, hl2, _⟩ := later wp.heap.size hb (Nat.le_refl _)
  clear hb
  go_wp2_with fail
  refine (?_ : Calls Try.prog 17 #[.slice A 2 c, .slice (some ⟨X2.w.heap.size, 0, none⟩) 2 2] _ fun e w' => e = .returned (.bool true) ∧ Below (X2.w.alloc (Obj.cells #[.int .u8 1, .int .u8 2] 5)).heap.size (X2.w.alloc (Obj.cells #[.int .u8 1, .int .u8 2] 5)) w').mono ?_
  · have h1 : Reads .u8 (X2.w.alloc (Obj.cells #[.int .u8 1, .int .u8 2] 5)) (X2.w.heap.size + 1) A 2 (putI 258 2) := (HR.out.keep (X2.is.alloc hl2 _)).more (by omega)
    have h2 : Reads .u8 (X2.w.alloc (Obj.cells #[.int .u8 1, .int .u8 2] 5)) (X2.w.heap.size + 1) (some ⟨X2.w.heap.size, 0, none⟩) 2 (fun j => (j : Int) + 1) := fun _ => ⟨_, 0, rfl, by omega, fun j hj => by
      match j, hj with
      | 0, _ | 1, _ => simp⟩
    have := same_any A _ 2 2 c 2 _ _ (X2.w.alloc (Obj.cells #[.int .u8 1, .int .u8 2] 5)) (by rw [World.size_alloc]; exact h1) (by rw [World.size_alloc]; exact h2) (by omega) (by omega)
    rwa [show sameF 2 2 (putI 258 2) (fun j => (j : Int) + 1) = true by decide] at this
  rintro e w' ⟨rfl, hb⟩; obtain ⟨X3, rfl, hl3, hm3⟩ := later (X2.w.heap.size + 1) hb (by go_size); clear hb; (try simp only [World.size_alloc, World.size_setCell, World.size_drew] at hm3)
  go_wp2_with fail
  refine (P3.out _).mono ?_
  rintro e w' ⟨rfl, hb⟩; obtain ⟨X4, rfl, hl4, hm4⟩ := later (X2.w.heap.size + 1) hb (by go_size); clear hb; (try simp only [World.size_alloc, World.size_setCell, World.size_drew] at hm4)
  go_wp2_with fail
  refine (P4.out _).mono ?_
  rintro e w' ⟨rfl, hb⟩; obtain ⟨X5, rfl, hl5, hm5⟩ := later (X2.w.heap.size + 1) hb (by go_size); clear hb; (try simp only [World.size_alloc, World.size_setCell, World.size_drew] at hm5)
  go_wp2
  go_ret
  exact ⟨rfl, by repeat' (first | (with_reducible exact Below.refl _ _) | (with_reducible assumption) | (with_reducible refine Later.step ?_ ?_ _) | (with_reducible refine Below.alloc ?_ ?_ _) | (with_reducible refine Below.drew ?_) | (with_reducible refine bel_drewN ?_ _) | (with_reducible refine bel_grown ?_ (by assumption) ?_ ?_) | (with_reducible refine Below.setCell ?_ ?_ _) | go_size)⟩
end Go.Proofs.Ytdhecljfjecefaa
