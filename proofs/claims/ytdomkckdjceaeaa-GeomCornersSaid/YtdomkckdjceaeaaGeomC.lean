/- A rectangle's corners: the function values and the loop that calls each, walked. No condition. -/
import Derived.Test.YtdomkckdjceaeaaGeomK
import Derived.Test.YtdomkckdjceaeaaApp
namespace Go.Proofs.Ytdomkckdjceaeaa
open Go.RowKit
set_option linter.unusedSimpArgs false
set_option linter.unusedVariables false
set_option maxRecDepth 2000

theorem c_low (a b c d : Int) (w : World) : Calls Try.prog 46 #[.agg #[.int .i64 a, .int .i64 b, .int .i64 c, .int .i64 d]] w fun e w' => e = .returned (.agg #[.int .i64 a, .int .i64 b]) ∧ Below w.heap.size w w' := by
  go_enter Try.func46, Try.ntmps46
  go_wp2
  refine bodyPost_ret (by simp only [results, Try.results46]; go_simp; all_goals rfl) rfl ⟨rfl, ?_⟩
  repeat' (first | (with_reducible exact Below.refl _ _) | (with_reducible assumption) | (with_reducible refine Later.step ?_ ?_ _) | (with_reducible refine Below.alloc ?_ ?_ _) | (with_reducible refine Below.drew ?_) | (with_reducible refine Below.setCell ?_ ?_ _) | go_size)
theorem c_high (a b c d : Int) (w : World) : Calls Try.prog 47 #[.agg #[.int .i64 a, .int .i64 b, .int .i64 c, .int .i64 d]] w fun e w' => e = .returned (.agg #[.int .i64 c, .int .i64 d]) ∧ Below w.heap.size w w' := by
  go_enter Try.func47, Try.ntmps47
  go_wp2
  refine bodyPost_ret (by simp only [results, Try.results47]; go_simp; all_goals rfl) rfl ⟨rfl, ?_⟩
  repeat' (first | (with_reducible exact Below.refl _ _) | (with_reducible assumption) | (with_reducible refine Later.step ?_ ?_ _) | (with_reducible refine Below.alloc ?_ ?_ _) | (with_reducible refine Below.drew ?_) | (with_reducible refine Below.setCell ?_ ?_ _) | go_size)
theorem c_turned (a b c d : Int) (w : World) : Calls Try.prog 43 #[.agg #[.int .i64 a, .int .i64 b, .int .i64 c, .int .i64 d]] w fun e w' => e = .returned (.agg #[.int .i64 c, .int .i64 b]) ∧ Below w.heap.size w w' := by
  go_enter Try.func43, Try.ntmps43
  go_wp2
  refine bodyPost_ret (by simp only [results, Try.results43]; go_simp; all_goals rfl) rfl ⟨rfl, ?_⟩
  repeat' (first | (with_reducible exact Below.refl _ _) | (with_reducible assumption) | (with_reducible refine Later.step ?_ ?_ _) | (with_reducible refine Below.alloc ?_ ?_ _) | (with_reducible refine Below.drew ?_) | (with_reducible refine Below.setCell ?_ ?_ _) | go_size)
theorem c_back (a b c d : Int) (w : World) : Calls Try.prog 44 #[.agg #[.int .i64 a, .int .i64 b, .int .i64 c, .int .i64 d]] w fun e w' => e = .returned (.agg #[.int .i64 a, .int .i64 d]) ∧ Below w.heap.size w w' := by
  go_enter Try.func44, Try.ntmps44
  go_wp2
  refine bodyPost_ret (by simp only [results, Try.results44]; go_simp; all_goals rfl) rfl ⟨rfl, ?_⟩
  repeat' (first | (with_reducible exact Below.refl _ _) | (with_reducible assumption) | (with_reducible refine Later.step ?_ ?_ _) | (with_reducible refine Below.alloc ?_ ?_ _) | (with_reducible refine Below.drew ?_) | (with_reducible refine Below.setCell ?_ ?_ _) | go_size)
/-- The corners' numbers, so many points of them. -/
def cornerV (a b c d : Int) (n : Nat) : List Value := ([.int .i64 a, .int .i64 b, .int .i64 c, .int .i64 b, .int .i64 a, .int .i64 d, .int .i64 c, .int .i64 d] : List Value).take (n * 2)
theorem own_formC {w : World} {base : Nat} {e : TypeId} {size n : Nat} {v : Value} {xs : List Value} (h : w.ownsRow base e size v n xs) : ∃ A c, v = .slice A n c := by
  rcases h.2 with ⟨rfl, rfl⟩ | ⟨g, cap, cur, rfl, _⟩
  · exact ⟨_, _, rfl⟩
  · exact ⟨_, _, rfl⟩
theorem cell_two_new (w : World) (x y : Value) (t : TypeId) : ∀ j u, [x, y][j]? = some u → (w.alloc (.cells #[x, y] t)).cell? ((⟨w.heap.size, 0, none⟩ : Addr).add j) = some u := by
  intro j u hj
  match j, hj with
  | 0, hj => simp at hj; subst hj; simp [Addr.add]
  | 1, hj => simp at hj; subst hj; simp [Addr.add]
set_option maxHeartbeats 4000000 in
theorem each_any (a b c d : Int) (g : Nat) (w : World) (hg : g < w.heap.size) (h0 : w.cell? ⟨g, 0, none⟩ = some (.func (.func 46) #[] #[])) (h1 : w.cell? ⟨g, 1, none⟩ = some (.func (.func 43) #[] #[]))
    (h2 : w.cell? ⟨g, 2, none⟩ = some (.func (.func 44) #[] #[])) (h3 : w.cell? ⟨g, 3, none⟩ = some (.func (.func 47) #[] #[])) :
    Calls Try.prog 45 #[.agg #[.int .i64 a, .int .i64 b, .int .i64 c, .int .i64 d], .slice (some ⟨g, 0, none⟩) 4 4] w fun e w' => (∃ A k, e = .returned (.slice A 4 k) ∧ w'.ownsRow w.heap.size 30 2 (.slice A 4 k) 4 (cornerV a b c d 4)) ∧ Below w.heap.size w w' := by
  obtain ⟨i0, hi, hz0, hz1, hz2⟩ := info_parts (P := Try.prog) (e := 30) (z := .agg #[.int .i64 0, .int .i64 0]) (size := 2) (bytes := 16) (by kernel_rfl)
  go_enter Try.func45, Try.ntmps45
  go_wp2
  go_loopw [5, 10] (fun o i wr => ∃ (k : Nat) (A : Option Addr) (cc : Nat), k ≤ 4 ∧ o = .slice A k cc ∧ i = .int .i64 k ∧ wr.ownsRow (w.heap.size + 1) 30 2 (.slice A k cc) k (cornerV a b c d k) ∧ Below (w.heap.size + 1) (w.alloc (Obj.cells #[.int .i64 a, .int .i64 b, .int .i64 c, .int .i64 d] 52)) wr) (fun _ i _ => 4 - (intOf i).toNat)
  case atStart => exact ⟨0, none, 0, by omega, rfl, rfl, World.ownsRow_nil _ _ _ _, Below.refl _ _⟩
  case round =>
    obtain ⟨k, A, cc, hk, rfl, rfl, hown, hb⟩ := hrel
    have hs := hb.size
    rw [World.size_alloc] at hs
    obtain ⟨X, rfl⟩ : ∃ X : Later (w.heap.size + 1) (w.alloc (Obj.cells #[.int .i64 a, .int .i64 b, .int .i64 c, .int .i64 d] 52)), wr = X.w := ⟨⟨wr, hb⟩, rfl⟩
    have HO := Lib.hid hown
    clear hb hown
    have hk4 : k = 0 ∨ k = 1 ∨ k = 2 ∨ k = 3 ∨ k = 4 := by omega
    rcases hk4 with rfl | rfl | rfl | rfl | rfl
    case inr.inr.inr.inr =>
      go_wp2
      go_ret
      exact ⟨⟨A, cc, rfl, own_base HO.out (by omega)⟩, by repeat' (first | (with_reducible exact Below.refl _ _) | (with_reducible assumption) | (with_reducible refine Later.step ?_ ?_ _) | (with_reducible refine Below.alloc ?_ ?_ _) | (with_reducible refine Below.drew ?_) | (with_reducible refine bel_drewN ?_ _) | (with_reducible refine bel_grown ?_ (by assumption) ?_ ?_) | (with_reducible refine Below.setCell ?_ ?_ _) | go_size)⟩
    all_goals
      go_wp2_with (first
        | (go_at_call 46; refine (c_low _ _ _ _ _).mono ?_; rintro e w' ⟨rfl, hb⟩; obtain ⟨X1, rfl, hl1, hm1⟩ := later (X.w.heap.size) hb (by first | exact Nat.le_refl _ | go_size); clear hb; (try simp only [World.size_alloc, World.size_setCell, World.size_drew] at hm1))
        | (go_at_call 43; refine (c_turned _ _ _ _ _).mono ?_; rintro e w' ⟨rfl, hb⟩; obtain ⟨X1, rfl, hl1, hm1⟩ := later (X.w.heap.size) hb (by first | exact Nat.le_refl _ | go_size); clear hb; (try simp only [World.size_alloc, World.size_setCell, World.size_drew] at hm1))
        | (go_at_call 44; refine (c_back _ _ _ _ _).mono ?_; rintro e w' ⟨rfl, hb⟩; obtain ⟨X1, rfl, hl1, hm1⟩ := later (X.w.heap.size) hb (by first | exact Nat.le_refl _ | go_size); clear hb; (try simp only [World.size_alloc, World.size_setCell, World.size_drew] at hm1))
        | (go_at_call 47; refine (c_high _ _ _ _ _).mono ?_; rintro e w' ⟨rfl, hb⟩; obtain ⟨X1, rfl, hl1, hm1⟩ := later (X.w.heap.size) hb (by first | exact Nat.le_refl _ | go_size); clear hb; (try simp only [World.size_alloc, World.size_setCell, World.size_drew] at hm1))
        | (at_builtin; refine wpList_append_own _ rfl _ _ 46 rfl (w.heap.size + 1) 30 i0 (.agg #[.int .i64 0, .int .i64 0]) 2 16 Try.underlying46 hi hz0 hz1 hz2 rfl (by decide) _ _ _ rfl ((own_keep HO.out X1.is).alloc _) ⟨X1.w.heap.size, 0, none⟩ 1 1 [_, _] rfl rfl (cell_two_new _ _ _ _) (fun x hx => by simp at hx; rcases hx with rfl | rfl <;> rfl) (by decide) (by decide) (by go_size) ?_))
      intro v' w1 hown1 hgrow _
      obtain ⟨A1, k1, rfl⟩ := own_formC hown1
      have hbw : Below (w.heap.size + 1) (X1.w.alloc (Obj.cells #[_, _] 30)) w1 := (Below.refl _ _).grown hgrow (by go_size) (fun k hk => (HO.out.lt k hk).1)
      have hs1 := hbw.size
      obtain ⟨Y, rfl⟩ : ∃ Y : Later (w.heap.size + 1) (X1.w.alloc (Obj.cells #[_, _] 30)), w1 = Y.w := ⟨⟨w1, hbw⟩, rfl⟩
      clear hbw hgrow
      go_wp2
      go_roundw
      case rel => exact ⟨_, A1, k1, by decide, rfl, by go_num, hown1, by repeat' (first | (with_reducible exact Below.refl _ _) | (with_reducible assumption) | (with_reducible refine Later.step ?_ ?_ _) | (with_reducible refine Below.alloc ?_ ?_ _) | (with_reducible refine Below.drew ?_) | (with_reducible refine bel_drewN ?_ _) | (with_reducible refine bel_grown ?_ (by assumption) ?_ ?_) | (with_reducible refine Below.setCell ?_ ?_ _) | go_size)⟩
      case measure => simp [intOf]
set_option maxHeartbeats 4000000 in
theorem corners_any (a b c d : Int) (w : World) :
    Calls Try.prog 34 #[.agg #[.int .i64 a, .int .i64 b, .int .i64 c, .int .i64 d]] w fun e w' => (if rightB a b c d then ∃ A k, e = .returned (.slice A 4 k) ∧ w'.ownsRow w.heap.size 30 2 (.slice A 4 k) 4 (cornerV a b c d 4) else e = .returned (.slice none 0 0)) ∧ Below w.heap.size w w' := by
  by_cases hr : rightB a b c d = true
  · simp only [if_pos hr]
    have P1 : ∀ Y : World, Calls Try.prog 23 #[.agg #[.int .i64 a, .int .i64 b, .int .i64 c, .int .i64 d]] Y fun e w' => e = .returned (.bool true) ∧ Below Y.heap.size Y w' := fun Y => hr ▸ right_any a b c d Y
    have Q1 := Lib.hid P1
    have HR := Lib.hid hr
    clear P1 hr
    go_enter Try.func34, Try.ntmps34
    go_wp2_with (first
      | (go_at_call 23; refine (Q1.out _).mono ?_; rintro e w' ⟨rfl, hb⟩; obtain ⟨X1, rfl, hl1, hm1⟩ := later (w.heap.size + 1) hb (by first | exact Nat.le_refl _ | go_size); clear hb; (try simp only [World.size_alloc, World.size_setCell, World.size_drew] at hm1)))
    refine (each_any a b c d X1.w.heap.size _ (by go_size) (by go_simp) (by go_simp) (by go_simp) (by go_simp)).mono ?_
    rintro e w2 ⟨⟨A, k, rfl, hown⟩, hb⟩
    have hs := hb.size
    simp only [World.size_alloc] at hs
    have hB : Below (w.heap.size + 1) X1.w w2 := ((Below.refl _ _).alloc (by go_size) _).trans (hb.mono (by go_size))
    have HO := Lib.hid (own_base hown (show w.heap.size ≤ _ by go_size))
    obtain ⟨Y, rfl⟩ : ∃ Y : Later (w.heap.size + 1) X1.w, w2 = Y.w := ⟨⟨w2, hB⟩, rfl⟩
    clear hown hb hB
    go_wp2
    go_ret
    exact ⟨⟨A, k, rfl, HO.out⟩, by repeat' (first | (with_reducible exact Below.refl _ _) | (with_reducible assumption) | (with_reducible refine Later.step ?_ ?_ _) | (with_reducible refine Below.alloc ?_ ?_ _) | (with_reducible refine Below.drew ?_) | (with_reducible refine bel_drewN ?_ _) | (with_reducible refine bel_grown ?_ (by assumption) ?_ ?_) | (with_reducible refine Below.setCell ?_ ?_ _) | go_size)⟩
  · simp only [if_neg hr]
    have P1 : ∀ Y : World, Calls Try.prog 23 #[.agg #[.int .i64 a, .int .i64 b, .int .i64 c, .int .i64 d]] Y fun e w' => e = .returned (.bool false) ∧ Below Y.heap.size Y w' := fun Y => (by simpa using hr : rightB a b c d = false) ▸ right_any a b c d Y
    have Q1 := Lib.hid P1
    clear P1 hr
    go_enter Try.func34, Try.ntmps34
    go_wp2_with (first
      | (go_at_call 23; refine (Q1.out _).mono ?_; rintro e w' ⟨rfl, hb⟩; obtain ⟨X1, rfl, hl1, hm1⟩ := later (w.heap.size + 1) hb (by first | exact Nat.le_refl _ | go_size); clear hb; (try simp only [World.size_alloc, World.size_setCell, World.size_drew] at hm1)))
    go_ret
    exact ⟨rfl, by repeat' (first | (with_reducible exact Below.refl _ _) | (with_reducible assumption) | (with_reducible refine Later.step ?_ ?_ _) | (with_reducible refine Below.alloc ?_ ?_ _) | (with_reducible refine Below.drew ?_) | (with_reducible refine bel_drewN ?_ _) | (with_reducible refine bel_grown ?_ (by assumption) ?_ ?_) | (with_reducible refine Below.setCell ?_ ?_ _) | go_size)⟩
set_option maxHeartbeats 8000000 in
theorem law_corners (a b c d : Int) (w : World) :
    Calls Try.prog 10 #[.agg #[.int .i64 a, .int .i64 b, .int .i64 c, .int .i64 d]] w fun e w' => e = .returned (.bool true) ∧ Below w.heap.size w w' := by
  by_cases hr : rightB a b c d = true
  · have P1 : ∀ Y : World, Calls Try.prog 29 #[.agg #[.int .i64 a, .int .i64 b, .int .i64 c, .int .i64 d]] Y fun e w' => e = .returned (.bool true) ∧ Below Y.heap.size Y w' := fun Y => hr ▸ rright_any a b c d Y
    have P2 : ∀ Y : World, Calls Try.prog 34 #[.agg #[.int .i64 a, .int .i64 b, .int .i64 c, .int .i64 d]] Y fun e w' => (∃ A k, e = .returned (.slice A 4 k) ∧ w'.ownsRow Y.heap.size 30 2 (.slice A 4 k) 4 (cornerV a b c d 4)) ∧ Below Y.heap.size Y w' := fun Y => by
      have := corners_any a b c d Y
      simp only [if_pos hr] at this
      exact this
    have Q1 := Lib.hid P1
    have Q2 := Lib.hid P2
    clear P1 P2 hr
    go_enter Try.func10, Try.ntmps10
    go_wp2_with fail
    refine (Q2.out _).mono ?_
    rintro e w1 ⟨⟨A, k, rfl, hown⟩, hb⟩
    obtain ⟨g, cap, hf, hgb, _⟩ := hown.form (by decide)
    obtain ⟨rfl, rfl⟩ : A = some ⟨g, 0, none⟩ ∧ k = cap := by injection hf with e1 _ e2; exact ⟨e1, e2⟩
    have hc := hown.cells (g := g) rfl
    have c0 := hc 0 _ rfl
    have c1 := hc 1 _ rfl
    have c2 := hc 2 _ rfl
    have c3 := hc 3 _ rfl
    have c4 := hc 4 _ rfl
    have c5 := hc 5 _ rfl
    have c6 := hc 6 _ rfl
    have c7 := hc 7 _ rfl
    simp only [Addr.add_lit, Nat.zero_add] at c0 c1 c2 c3 c4 c5 c6 c7
    have hcap := own_cap hown
    have hgl : g < w1.heap.size := (hown.lt g rfl).2
    have hs := hb.size
    simp only [World.size_alloc] at hs
    have hB : Below (w.heap.size + 1) (w.alloc (Obj.cells #[.int .i64 a, .int .i64 b, .int .i64 c, .int .i64 d] 23)) w1 := hb.mono (by go_size)
    obtain ⟨X, rfl⟩ : ∃ X : Later (w.heap.size + 1) (w.alloc (Obj.cells #[.int .i64 a, .int .i64 b, .int .i64 c, .int .i64 d] 23)), w1 = X.w := ⟨⟨w1, hB⟩, rfl⟩
    clear hown hb hB hc hf
    go_wp2_with (first
      | (go_at_call 29; refine (Q1.out _).mono ?_; rintro e w' ⟨rfl, hb⟩; obtain ⟨X1, rfl, hl1, hm1⟩ := later (X.w.heap.size) hb (by first | exact Nat.le_refl _ | go_size); clear hb; (try simp only [World.size_alloc, World.size_setCell, World.size_drew] at hm1)))
    go_loopw [5] (fun i wr => ∃ k : Nat, k ≤ 4 ∧ i = .int .i64 k ∧ Below (X1.w.heap.size + 1) (X1.w.alloc (Obj.cells #[.int .i64 a, .int .i64 b, .int .i64 c, .int .i64 b, .int .i64 a, .int .i64 d, .int .i64 c, .int .i64 d] 30)) wr) (fun i _ => 4 - (intOf i).toNat)
    case atStart => exact ⟨0, by omega, rfl, Below.refl _ _⟩
    case round =>
      obtain ⟨k, hk, rfl, hb⟩ := hrel
      have hs := hb.size
      rw [World.size_alloc] at hs
      obtain ⟨Y, rfl⟩ : ∃ Y : Later (X1.w.heap.size + 1) (X1.w.alloc (Obj.cells #[.int .i64 a, .int .i64 b, .int .i64 c, .int .i64 b, .int .i64 a, .int .i64 d, .int .i64 c, .int .i64 d] 30)), wr = Y.w := ⟨⟨wr, hb⟩, rfl⟩
      clear hb
      have hk4 : k = 0 ∨ k = 1 ∨ k = 2 ∨ k = 3 ∨ k = 4 := by omega
      rcases hk4 with rfl | rfl | rfl | rfl | rfl
      case inr.inr.inr.inr =>
        go_wp2_with (go_at_call 16; refine (known_any _).mono ?_; rintro e w' ⟨rfl, hb⟩; obtain ⟨X9, rfl, hl9, hm9⟩ := later (Y.w.heap.size) hb (by first | exact Nat.le_refl _ | go_size); clear hb; (try simp only [World.size_alloc, World.size_setCell, World.size_drew] at hm9))
        go_ret
        exact ⟨rfl, by repeat' (first | (with_reducible exact Below.refl _ _) | (with_reducible assumption) | (with_reducible refine Later.step ?_ ?_ _) | (with_reducible refine Below.alloc ?_ ?_ _) | (with_reducible refine Below.drew ?_) | (with_reducible refine bel_drewN ?_ _) | (with_reducible refine bel_grown ?_ (by assumption) ?_ ?_) | (with_reducible refine Below.setCell ?_ ?_ _) | go_size)⟩
      all_goals
        go_wp2_with fail
        (refine wp_region_later (Y.w.heap.size) (by kernel_rfl) (by kernel_rfl) (by go_size) ?_; (repeat (go_big_quiet_step (fail))); refine wpQuiet_nil ?_; intro Xq hlq hmq)
        go_wp2
        go_roundw
        case rel =>
          first
            | exact ⟨1, by decide, by go_num, by repeat' (first | (with_reducible exact Below.refl _ _) | (with_reducible assumption) | (with_reducible refine Later.step ?_ ?_ _) | (with_reducible refine Below.alloc ?_ ?_ _) | (with_reducible refine Below.drew ?_) | (with_reducible refine bel_drewN ?_ _) | (with_reducible refine bel_grown ?_ (by assumption) ?_ ?_) | (with_reducible refine Below.setCell ?_ ?_ _) | go_size)⟩
            | exact ⟨2, by decide, by go_num, by repeat' (first | (with_reducible exact Below.refl _ _) | (with_reducible assumption) | (with_reducible refine Later.step ?_ ?_ _) | (with_reducible refine Below.alloc ?_ ?_ _) | (with_reducible refine Below.drew ?_) | (with_reducible refine bel_drewN ?_ _) | (with_reducible refine bel_grown ?_ (by assumption) ?_ ?_) | (with_reducible refine Below.setCell ?_ ?_ _) | go_size)⟩
            | exact ⟨3, by decide, by go_num, by repeat' (first | (with_reducible exact Below.refl _ _) | (with_reducible assumption) | (with_reducible refine Later.step ?_ ?_ _) | (with_reducible refine Below.alloc ?_ ?_ _) | (with_reducible refine Below.drew ?_) | (with_reducible refine bel_drewN ?_ _) | (with_reducible refine bel_grown ?_ (by assumption) ?_ ?_) | (with_reducible refine Below.setCell ?_ ?_ _) | go_size)⟩
            | exact ⟨4, by decide, by go_num, by repeat' (first | (with_reducible exact Below.refl _ _) | (with_reducible assumption) | (with_reducible refine Later.step ?_ ?_ _) | (with_reducible refine Below.alloc ?_ ?_ _) | (with_reducible refine Below.drew ?_) | (with_reducible refine bel_drewN ?_ _) | (with_reducible refine bel_grown ?_ (by assumption) ?_ ?_) | (with_reducible refine Below.setCell ?_ ?_ _) | go_size)⟩
        case measure => simp [intOf]
  · have hrf : rightB a b c d = false := by simpa using hr
    have P1 : ∀ Y : World, Calls Try.prog 29 #[.agg #[.int .i64 a, .int .i64 b, .int .i64 c, .int .i64 d]] Y fun e w' => e = .returned (.bool false) ∧ Below Y.heap.size Y w' := fun Y => hrf ▸ rright_any a b c d Y
    have P2 : ∀ Y : World, Calls Try.prog 34 #[.agg #[.int .i64 a, .int .i64 b, .int .i64 c, .int .i64 d]] Y fun e w' => e = .returned (.slice none 0 0) ∧ Below Y.heap.size Y w' := fun Y => by
      have := corners_any a b c d Y
      simp only [if_neg hr] at this
      exact this
    have Q1 := Lib.hid P1
    have Q2 := Lib.hid P2
    clear P1 P2 hr hrf
    go_enter Try.func10, Try.ntmps10
    go_wp2_with (first
      | (go_at_call 34; refine (Q2.out _).mono ?_; rintro e w' ⟨rfl, hb⟩; obtain ⟨X1, rfl, hl1, hm1⟩ := later (w.heap.size + 1) hb (by first | exact Nat.le_refl _ | go_size); clear hb; (try simp only [World.size_alloc, World.size_setCell, World.size_drew] at hm1))
      | (go_at_call 29; refine (Q1.out _).mono ?_; rintro e w' ⟨rfl, hb⟩; obtain ⟨X2, rfl, hl2, hm2⟩ := later (w.heap.size + 1) hb (by first | exact Nat.le_refl _ | go_size); clear hb; (try simp only [World.size_alloc, World.size_setCell, World.size_drew] at hm2))
      | (go_at_call 16; refine (known_any _).mono ?_; rintro e w' ⟨rfl, hb⟩; obtain ⟨X9, rfl, hl9, hm9⟩ := later (w.heap.size + 1) hb (by first | exact Nat.le_refl _ | go_size); clear hb; (try simp only [World.size_alloc, World.size_setCell, World.size_drew] at hm9)))
    go_ret
    exact ⟨rfl, by repeat' (first | (with_reducible exact Below.refl _ _) | (with_reducible assumption) | (with_reducible refine Later.step ?_ ?_ _) | (with_reducible refine Below.alloc ?_ ?_ _) | (with_reducible refine Below.drew ?_) | (with_reducible refine bel_drewN ?_ _) | (with_reducible refine bel_grown ?_ (by assumption) ?_ ?_) | (with_reducible refine Below.setCell ?_ ?_ _) | go_size)⟩
end Go.Proofs.Ytdomkckdjceaeaa
