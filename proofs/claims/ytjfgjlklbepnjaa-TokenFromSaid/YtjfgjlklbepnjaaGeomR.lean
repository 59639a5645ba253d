/- The document's answers for the geometry layer, walked: each answers its plain function and leaves elder memory alone. No condition. -/
import Derived.Test.YtjfgjlklbepnjaaTail
import Derived.Test.YtjfgjlklbepnjaaGeomS
import Derived.Deep.RegionHeld3
namespace Go.Proofs.Ytjfgjlklbepnjaa
open Go.RowKit
set_option linter.unusedSimpArgs false

def insideB (n : Int) : Bool := decide (0 ≤ n ∧ n ≤ 65535)
set_option maxHeartbeats 1000000 in
theorem rinside_any (n : Int) (w : World) :
    Calls Try.prog 56 #[.int .i64 n] w fun e w' => e = .returned (.bool (insideB n)) ∧ w = w' := by
  go_enter Try.func56, Try.ntmps56
  go_wp2
  all_goals
    go_ret
    exact ⟨ret_b (iff_b (by simp [insideB]; try omega)), rfl⟩
set_option maxHeartbeats 2000000 in
theorem rright_any (a b c d : Int) (w : World) :
    Calls Try.prog 43 #[.agg #[.int .i64 a, .int .i64 b, .int .i64 c, .int .i64 d]] w fun e w' => e = .returned (.bool (rightB a b c d)) ∧ Below w.heap.size w w' := by
  go_enter Try.func43, Try.ntmps43
  go_wp2_with (go_at_call 56; refine (rinside_any _ _).mono ?_; rintro e w' ⟨rfl, rfl⟩)
  all_goals
    go_ret
    exact ⟨ret_b (iff_b (by simp only [insideB, decide_eq_true_eq, right_iff] at *; first | omega | (simp; done) | (simp; omega))), by repeat' (first | (with_reducible exact Below.refl _ _) | (with_reducible assumption) | (with_reducible refine Later.step ?_ ?_ _) | (with_reducible refine Below.alloc ?_ ?_ _) | (with_reducible refine Below.drew ?_) | (with_reducible refine Below.setCell ?_ ?_ _) | go_size)⟩
set_option maxHeartbeats 1000000 in
theorem rmore_same (a b : Int) (w : World) :
    Calls Try.prog 57 #[.int .i64 a, .int .i64 b] w fun e w' => e = .returned (.int .i64 (max a b)) ∧ w = w' := by
  go_enter Try.func57, Try.ntmps57
  go_wp2
  all_goals
    go_ret
    exact ⟨ret_i (by omega), rfl⟩
theorem rmore_any (a b : Int) (w : World) :
    Calls Try.prog 57 #[.int .i64 a, .int .i64 b] w fun e w' => e = .returned (.int .i64 (max a b)) ∧ Below w.heap.size w w' :=
  (rmore_same a b w).mono fun _ _ ⟨he, hw⟩ => ⟨he, hw ▸ Below.refl _ _⟩
set_option maxHeartbeats 1000000 in
theorem rless_same (a b : Int) (w : World) :
    Calls Try.prog 58 #[.int .i64 a, .int .i64 b] w fun e w' => e = .returned (.int .i64 (min a b)) ∧ w = w' := by
  go_enter Try.func58, Try.ntmps58
  go_wp2
  all_goals
    go_ret
    exact ⟨ret_i (by omega), rfl⟩
theorem rless_any (a b : Int) (w : World) :
    Calls Try.prog 58 #[.int .i64 a, .int .i64 b] w fun e w' => e = .returned (.int .i64 (min a b)) ∧ Below w.heap.size w w' :=
  (rless_same a b w).mono fun _ _ ⟨he, hw⟩ => ⟨he, hw ▸ Below.refl _ _⟩
set_option maxHeartbeats 4000000 in
theorem rmeet_any (a b c d a' b' c' d' : Int) (w : World) :
    Calls Try.prog 46 #[.agg #[.int .i64 a, .int .i64 b, .int .i64 c, .int .i64 d], .agg #[.int .i64 a', .int .i64 b', .int .i64 c', .int .i64 d']] w fun e w' =>
      e = .returned (.tuple #[.agg #[.int .i64 (sel (meetsB a b c d a' b' c' d') (max a a')), .int .i64 (sel (meetsB a b c d a' b' c' d') (max b b')), .int .i64 (sel (meetsB a b c d a' b' c' d') (min c c')), .int .i64 (sel (meetsB a b c d a' b' c' d') (min d d'))], .bool (meetsB a b c d a' b' c' d')]) ∧ Below w.heap.size w w' := by
  have h1 : rightB a b c d = false → meetsB a b c d a' b' c' d' = false := meets_left
  have h2 : rightB a' b' c' d' = false → meetsB a b c d a' b' c' d' = false := meets_other
  have h3 : rightB a b c d = true → rightB a' b' c' d' = true → rightB (max a a') (max b b') (min c c') (min d d') = meetsB a b c d a' b' c' d' := meets_right
  have H1 := Lib.hid h1
  have H2 := Lib.hid h2
  have H3 := Lib.hid h3
  clear h1 h2 h3
  go_enter Try.func46, Try.ntmps46
  go_wp2_with fail
  go_region_held3 (fun w' => w'.cell? ⟨w.heap.size, 0, none⟩ = some (.int .i64 a) ∧ w'.cell? ⟨w.heap.size, 1, none⟩ = some (.int .i64 b) ∧ w'.cell? ⟨w.heap.size, 2, none⟩ = some (.int .i64 c) ∧ w'.cell? ⟨w.heap.size, 3, none⟩ = some (.int .i64 d)
      ∧ w'.cell? ⟨w.heap.size + 1, 0, none⟩ = some (.int .i64 a') ∧ w'.cell? ⟨w.heap.size + 1, 1, none⟩ = some (.int .i64 b') ∧ w'.cell? ⟨w.heap.size + 1, 2, none⟩ = some (.int .i64 c') ∧ w'.cell? ⟨w.heap.size + 1, 3, none⟩ = some (.int .i64 d'))
    (first | (go_simp; done) | go_keep)
    (first
      | (go_at_call 57; refine (rmore_same _ _ _).mono ?_; rintro e w' ⟨rfl, rfl⟩)
      | (go_at_call 58; refine (rless_same _ _ _).mono ?_; rintro e w' ⟨rfl, rfl⟩))
  all_goals
    go_wp2_with (first
      | (go_at_call 43; refine (rright_any _ _ _ _ _).mono ?_; rintro e w' ⟨rfl, hb⟩; obtain ⟨X1, rfl, hl1, hm1⟩ := later (w.heap.size + 4) hb (by first | exact Nat.le_refl _ | go_size); clear hb; (try simp only [World.size_alloc, World.size_setCell, World.size_drew] at hm1)))
  all_goals first
    | (have hm : meetsB a b c d a' b' c' d' = false := H1.out (not_n (by assumption)); rw [hm]; refine bodyPost_ret (by simp only [results, Try.results46]; go_simp; all_goals (first | rfl | simp [sel])) rfl ⟨rfl, ?_⟩; repeat' (first | (with_reducible exact Below.refl _ _) | (with_reducible assumption) | (with_reducible refine Later.step ?_ ?_ _) | (with_reducible refine Below.alloc ?_ ?_ _) | (with_reducible refine Below.drew ?_) | (with_reducible refine Below.setCell ?_ ?_ _) | go_size))
    | (have hm : meetsB a b c d a' b' c' d' = false := H2.out (not_n (by assumption)); rw [hm]; refine bodyPost_ret (by simp only [results, Try.results46]; go_simp; all_goals (first | rfl | simp [sel])) rfl ⟨rfl, ?_⟩; repeat' (first | (with_reducible exact Below.refl _ _) | (with_reducible assumption) | (with_reducible refine Later.step ?_ ?_ _) | (with_reducible refine Below.alloc ?_ ?_ _) | (with_reducible refine Below.drew ?_) | (with_reducible refine Below.setCell ?_ ?_ _) | go_size))
    | (have hm : meetsB a b c d a' b' c' d' = false := (H3.out (by assumption) (by assumption)).symm.trans (not_t (by assumption)); rw [hm]; refine bodyPost_ret (by simp only [results, Try.results46]; go_simp; all_goals (first | rfl | simp [sel])) rfl ⟨rfl, ?_⟩; repeat' (first | (with_reducible exact Below.refl _ _) | (with_reducible assumption) | (with_reducible refine Later.step ?_ ?_ _) | (with_reducible refine Below.alloc ?_ ?_ _) | (with_reducible refine Below.drew ?_) | (with_reducible refine Below.setCell ?_ ?_ _) | go_size))
    | (have hm : meetsB a b c d a' b' c' d' = true := (H3.out (by assumption) (by assumption)).symm.trans (not_f (by assumption)); rw [hm]; refine bodyPost_ret (by simp only [results, Try.results46]; go_simp; all_goals (first | rfl | simp [sel])) rfl ⟨rfl, ?_⟩; repeat' (first | (with_reducible exact Below.refl _ _) | (with_reducible assumption) | (with_reducible refine Later.step ?_ ?_ _) | (with_reducible refine Below.alloc ?_ ?_ _) | (with_reducible refine Below.drew ?_) | (with_reducible refine Below.setCell ?_ ?_ _) | go_size))
end Go.Proofs.Ytjfgjlklbepnjaa
