/- Several texts of one proof, joined: Rules: Right, For, Zoom walked. No condition beyond what the rows read as. | DERIVED: THE SHELF's CONTRACTS AT THIS DUMP, IN PLAIN WORDS (tools/lay-plain.mjs out of 'YthlijfligikciaaGreatShelf.lean', which tools/lay-shelf.mjs wrote): THE SAME DECLARATIONS UNDER THE SAME NAMES: 'import', 'namespace', 'open', 'def', 'theorem' AND NOTHING ELSE: no command of the shelf's: FOR A HAND-IN. Each laying: the table of numbers ('.._ren') and one theorem, a field a fact of the dump's own or the kernel's comparison; each contract: ONE APPLICATION. | Rows of integers in memory: a slice that reads as so many numbers. No condition. -/
import Derived.Test.YthlijfligikciaaGreatZ02
import Derived.Shelf.Sort.Plain
import Derived.Ground.Names2Prog
import Derived.Shelf.Slices.CompactI
import Derived.Shelf.Slices.In.SortNone
import Derived.Test.YthlijfligikciaaGreatProg
import Derived.Test.YthlijfligikciaaGreatZ01
import Derived.OwnWalk
import Derived.Laws.AppendOwn
import Derived.Laws.OwnMore
import Derived.Deep.AppendLies
/- Rules: Right, For, Zoom walked. No condition beyond what the rows read as. -/
namespace Go.Proofs.YthlijfligikciaaGreat
open Go.RowKit
set_option linter.unusedSimpArgs false
set_option linter.unusedVariables false
set_option maxRecDepth 2000

/-- How many boxes a rule has is no more than a slice can have. -/
theorem rls_len {w : World} {B i : Nat} {A : Option Addr} {L : List Rl} {P : Nat → Option Addr × Nat} (h : Rls w B A L P) (hi : i < L.length) : (L.getD i rl0).boxes.length ≤ 9223372036854775807 := by
  have := h.cap i hi
  omega
set_option maxHeartbeats 8000000 in
theorem rulesRight_any (n c : Nat) (A : Option Addr) (L : List Rl) (P : Nat → Option Addr × Nat) (w : World) (h : Rls w w.heap.size A L P) (hn : L.length = n) (hn1 : n ≤ 9223372036854775806) (hbx : ∀ i, i < n → (L.getD i rl0).boxes.length ≤ 9223372036854775806) :
    Calls Tryz.prog 55 #[.slice A n c] w fun e w' => e = .returned (.bool (L.all rightR)) ∧ Below w.heap.size w w' := by
  have H := Lib.hid h
  have HN := Lib.hid hn
  have HB := Lib.hid hbx
  obtain ⟨R, hR⟩ : ∃ R, L.all rightR = R := ⟨_, rfl⟩
  rw [hR]
  have HR := Lib.hid hR
  clear h hn hR hbx
  go_enter Tryz.func55, Tryz.ntmps55
  go_wp2
  go_loopw [7] (fun i wr => ∃ k : Nat, k ≤ n ∧ i = .int .i64 k ∧ Hid (∀ j, j < k → rightR (L.getD j rl0) = true) ∧ Below w.heap.size w wr) (fun i _ => n - (intOf i).toNat)
  case atStart => exact ⟨0, Nat.zero_le _, rfl, fun j hj => absurd hj (by omega), Below.refl _ _⟩
  case round =>
    obtain ⟨k, hk, rfl, hall, hb⟩ := hrel
    obtain ⟨X, rfl⟩ : ∃ X : Later w.heap.size w, wr = X.w := ⟨⟨wr, hb⟩, rfl⟩
    have hs := X.is.size
    clear hb
    by_cases hlt : k < n
    · have hkL : k < L.length := by rw [HN.out]; exact hlt
      obtain ⟨b, o, hA, hB, c0, c1, c2, c3, c4, c5, c6⟩ := rls_at H.out hkL
      subst hA
      have hbx := HB.out k hlt
      have hbs := H.out.bx k hkL
      have hno : rightR (L.getD k rl0) = false → R = false := fun he => by
        rw [← HR.out, Bool.eq_false_iff]
        intro h9
        have := List.all_eq_true.1 h9 (L.getD k rl0) (by rw [getR_lt hkL]; exact List.getElem_mem _)
        rw [he] at this
        cases this
      obtain ⟨A1, cc1, hP⟩ : ∃ A1 cc1, P k = (A1, cc1) := ⟨_, _, rfl⟩
      rw [hP] at c5 hbs
      obtain ⟨x, hx⟩ : ∃ x, L.getD k rl0 = x := ⟨_, rfl⟩
      rw [hx] at c0 c1 c2 c3 c4 c5 c6 hno hbx hbs
      obtain ⟨m, hm⟩ : ∃ m, x.boxes.length = m := ⟨_, rfl⟩
      rw [hm] at c5 hbx
      have p2 := fun (Y : World) (hY : Below w.heap.size w Y) => rright_any x m cc1 A1 Y (hbs.up hY hY.size) hm hbx
      obtain ⟨d, hd⟩ : ∃ d, rightR x = d := ⟨_, rfl⟩
      rw [hd] at p2
      have P2 := Lib.hid p2
      have HX := Lib.hid (show L.getD k rl0 = x ∧ rightR x = d from ⟨hx, hd⟩)
      clear p2 hd hx hm hbs hP
      cases d with
      | true =>
        clear hno
        go_wp2_with (first
          | (go_at_call 100; with_reducible refine (P2.out _ ?_).mono ?_; (focus (repeat' (first | (with_reducible exact Below.refl _ _) | (with_reducible assumption) | (with_reducible refine Later.step ?_ ?_ _) | (with_reducible refine Below.alloc ?_ ?_ _) | (with_reducible refine Below.drew ?_) | (with_reducible refine bel_drewN ?_ _) | (with_reducible refine bel_grown ?_ (by assumption) ?_ ?_) | (with_reducible refine Below.setCell ?_ ?_ _) | go_size))); rintro e w' ⟨rfl, hb⟩; obtain ⟨X1, rfl, hl1, hm1⟩ := later _ hb (Nat.le_refl _); clear hb; (try simp only [World.size_alloc, World.size_setCell, World.size_drew] at hm1 hl1)))
        go_roundw
        case rel =>
          refine ⟨k + 1, by omega, by go_num, fun j hj => ?_, by repeat' (first | (with_reducible exact Below.refl _ _) | (with_reducible assumption) | (with_reducible refine Later.step ?_ ?_ _) | (with_reducible refine Below.alloc ?_ ?_ _) | (with_reducible refine Below.drew ?_) | (with_reducible refine bel_drewN ?_ _) | (with_reducible refine bel_grown ?_ (by assumption) ?_ ?_) | (with_reducible refine Below.setCell ?_ ?_ _) | go_size)⟩
          by_cases hjk : j = k
          · subst hjk; rw [HX.out.1, HX.out.2]
          · exact hall.out j (by omega)
        case measure => simp [intOf]; omega
      | false =>
        obtain rfl : R = false := hno HX.out.2
        clear hno
        go_wp2_with (first
          | (go_at_call 100; with_reducible refine (P2.out _ ?_).mono ?_; (focus (repeat' (first | (with_reducible exact Below.refl _ _) | (with_reducible assumption) | (with_reducible refine Later.step ?_ ?_ _) | (with_reducible refine Below.alloc ?_ ?_ _) | (with_reducible refine Below.drew ?_) | (with_reducible refine bel_drewN ?_ _) | (with_reducible refine bel_grown ?_ (by assumption) ?_ ?_) | (with_reducible refine Below.setCell ?_ ?_ _) | go_size))); rintro e w' ⟨rfl, hb⟩; obtain ⟨X1, rfl, hl1, hm1⟩ := later _ hb (Nat.le_refl _); clear hb; (try simp only [World.size_alloc, World.size_setCell, World.size_drew] at hm1 hl1)))
        go_ret
        exact ⟨rfl, by repeat' (first | (with_reducible exact Below.refl _ _) | (with_reducible assumption) | (with_reducible refine Later.step ?_ ?_ _) | (with_reducible refine Below.alloc ?_ ?_ _) | (with_reducible refine Below.drew ?_) | (with_reducible refine bel_drewN ?_ _) | (with_reducible refine bel_grown ?_ (by assumption) ?_ ?_) | (with_reducible refine Below.setCell ?_ ?_ _) | go_size)⟩
    · obtain rfl : k = n := by omega
      obtain rfl : R = true := by
        rw [← HR.out, List.all_eq_true]
        intro x hx
        obtain ⟨j, hj, rfl⟩ := List.mem_iff_getElem.1 hx
        have := hall.out j (by rw [← HN.out]; exact hj)
        rwa [getR_lt hj] at this
      go_wp2
      go_ret
      exact ⟨rfl, by repeat' (first | (with_reducible exact Below.refl _ _) | (with_reducible assumption) | (with_reducible refine Later.step ?_ ?_ _) | (with_reducible refine Below.alloc ?_ ?_ _) | (with_reducible refine Below.drew ?_) | (with_reducible refine bel_drewN ?_ _) | (with_reducible refine bel_grown ?_ (by assumption) ?_ ?_) | (with_reducible refine Below.setCell ?_ ?_ _) | go_size)⟩
set_option maxHeartbeats 16000000 in
theorem rfor_any (r : Rl) (n c : Nat) (A : Option Addr) (x y z : Int) (w : World) (h : Bxs w w.heap.size A r.boxes) (hn : r.boxes.length = n) (hn1 : n ≤ 9223372036854775806) :
    Calls Tryz.prog 106 #[.agg #[.int .i64 r.kind, .int .i64 r.roles, .int .i64 r.lo, .int .i64 r.hi, .int .i64 r.labels, .slice A n c, .int .i64 r.zoom], .int .i64 x, .int .i64 y, .int .i64 z] w fun e w' => e = .returned (.bool (forR r x y z)) ∧ Below w.heap.size w w' := by
  have p1 := fun (Y : World) (hY : Below w.heap.size w Y) => rright_any r n c A Y (h.up hY hY.size) hn hn1
  have p2 := nums_any x y z
  have hE : forR r x y z = (rightR r && decide (r.kind ≠ 6) && numsB x y z && inS r.roles x && decide (r.lo ≤ y) && decide (y ≤ r.hi) && inS r.labels z) := rfl
  have hro := @rightR_roles r
  have hla := @rightR_labels r
  obtain ⟨r1, h1⟩ : ∃ q, rightR r = q := ⟨_, rfl⟩
  rw [h1] at p1 hE hro hla
  have hnums : numsB x y z = true → 0 ≤ x ∧ x ≤ 7 ∧ 0 ≤ z ∧ z ≤ 7 := fun h => by
    unfold numsB smallB at h
    simp at h
    omega
  obtain ⟨r2, h2⟩ : ∃ q, numsB x y z = q := ⟨_, rfl⟩
  rw [h2] at p2 hE hnums
  have P1 := Lib.hid p1
  have P2 := Lib.hid p2
  rw [hE]
  clear p1 p2 h1 h2 hE h hn
  cases r1 with
  | false =>
    clear hro hla hnums P2
    go_enter Tryz.func106, Tryz.ntmps106
    go_wp2_with (first
      | (go_at_call 100; with_reducible refine (P1.out _ ?_).mono ?_; (focus (repeat' (first | (with_reducible exact Below.refl _ _) | (with_reducible assumption) | (with_reducible refine Later.step ?_ ?_ _) | (with_reducible refine Below.alloc ?_ ?_ _) | (with_reducible refine Below.drew ?_) | (with_reducible refine bel_drewN ?_ _) | (with_reducible refine bel_grown ?_ (by assumption) ?_ ?_) | (with_reducible refine Below.setCell ?_ ?_ _) | go_size))); rintro e w' ⟨rfl, hb⟩; obtain ⟨X1, rfl, hl1, hm1⟩ := later _ hb (Nat.le_refl _); clear hb; (try simp only [World.size_alloc, World.size_setCell, World.size_drew] at hm1 hl1)))
    go_ret
    exact ⟨rfl, by repeat' (first | (with_reducible exact Below.refl _ _) | (with_reducible assumption) | (with_reducible refine Later.step ?_ ?_ _) | (with_reducible refine Below.alloc ?_ ?_ _) | (with_reducible refine Below.drew ?_) | (with_reducible refine bel_drewN ?_ _) | (with_reducible refine bel_grown ?_ (by assumption) ?_ ?_) | (with_reducible refine Below.setCell ?_ ?_ _) | go_size)⟩
  | true =>
    obtain ⟨g1, g2⟩ := hro rfl
    obtain ⟨g3, g4⟩ := hla rfl
    by_cases k6 : r.kind = 6
    · have e6 : (r.kind != 6) = false := by simp [k6]
      rw [show decide (r.kind ≠ 6) = false by simp [k6]]
      clear hnums hro hla P2 k6
      go_enter Tryz.func106, Tryz.ntmps106
      go_wp2_with (first
        | (go_at_call 100; with_reducible refine (P1.out _ ?_).mono ?_; (focus (repeat' (first | (with_reducible exact Below.refl _ _) | (with_reducible assumption) | (with_reducible refine Later.step ?_ ?_ _) | (with_reducible refine Below.alloc ?_ ?_ _) | (with_reducible refine Below.drew ?_) | (with_reducible refine bel_drewN ?_ _) | (with_reducible refine bel_grown ?_ (by assumption) ?_ ?_) | (with_reducible refine Below.setCell ?_ ?_ _) | go_size))); rintro e w' ⟨rfl, hb⟩; obtain ⟨X1, rfl, hl1, hm1⟩ := later _ hb (Nat.le_refl _); clear hb; (try simp only [World.size_alloc, World.size_setCell, World.size_drew] at hm1 hl1)))
      go_ret
      exact ⟨rfl, by repeat' (first | (with_reducible exact Below.refl _ _) | (with_reducible assumption) | (with_reducible refine Later.step ?_ ?_ _) | (with_reducible refine Below.alloc ?_ ?_ _) | (with_reducible refine Below.drew ?_) | (with_reducible refine bel_drewN ?_ _) | (with_reducible refine bel_grown ?_ (by assumption) ?_ ?_) | (with_reducible refine Below.setCell ?_ ?_ _) | go_size)⟩
    · have e6 : (r.kind != 6) = true := by simpa using k6
      rw [show decide (r.kind ≠ 6) = true by simpa using k6]
      clear hro hla k6
      cases r2 with
      | false =>
        clear hnums
        go_enter Tryz.func106, Tryz.ntmps106
        go_wp2_with (first
          | (go_at_call 100; with_reducible refine (P1.out _ ?_).mono ?_; (focus (repeat' (first | (with_reducible exact Below.refl _ _) | (with_reducible assumption) | (with_reducible refine Later.step ?_ ?_ _) | (with_reducible refine Below.alloc ?_ ?_ _) | (with_reducible refine Below.drew ?_) | (with_reducible refine bel_drewN ?_ _) | (with_reducible refine bel_grown ?_ (by assumption) ?_ ?_) | (with_reducible refine Below.setCell ?_ ?_ _) | go_size))); rintro e w' ⟨rfl, hb⟩; obtain ⟨X1, rfl, hl1, hm1⟩ := later _ hb (Nat.le_refl _); clear hb; (try simp only [World.size_alloc, World.size_setCell, World.size_drew] at hm1 hl1))
          | (go_at_call 133; with_reducible refine (P2.out _).mono ?_; rintro e w' ⟨rfl, hb⟩; obtain ⟨X2, rfl, hl2, hm2⟩ := later _ hb (Nat.le_refl _); clear hb; (try simp only [World.size_alloc, World.size_setCell, World.size_drew] at hm2 hl2)))
        go_ret
        exact ⟨rfl, by repeat' (first | (with_reducible exact Below.refl _ _) | (with_reducible assumption) | (with_reducible refine Later.step ?_ ?_ _) | (with_reducible refine Below.alloc ?_ ?_ _) | (with_reducible refine Below.drew ?_) | (with_reducible refine bel_drewN ?_ _) | (with_reducible refine bel_grown ?_ (by assumption) ?_ ?_) | (with_reducible refine Below.setCell ?_ ?_ _) | go_size)⟩
      | true =>
        obtain ⟨b1, b2, b3, b4⟩ := hnums rfl
        have p3 := fun Y => sin_any r.roles x Y g1 g2 b1 b2
        have p4 := fun Y => sin_any r.labels z Y g3 g4 b3 b4
        obtain ⟨r3, h3⟩ : ∃ q, inS r.roles x = q := ⟨_, rfl⟩
        obtain ⟨r4, h4⟩ : ∃ q, inS r.labels z = q := ⟨_, rfl⟩
        rw [h3] at p3 ⊢
        rw [h4] at p4 ⊢
        have P3 := Lib.hid p3
        have P4 := Lib.hid p4
        clear p3 p4 h3 h4 hnums
        obtain ⟨q1, hq1⟩ : ∃ q, decide (r.lo ≤ y) = q := ⟨_, rfl⟩
        obtain ⟨q2, hq2⟩ : ∃ q, decide (y ≤ r.hi) = q := ⟨_, rfl⟩
        rw [hq1, hq2]
        cases r3 <;> cases r4 <;> cases q1 <;> cases q2 <;>
        · go_enter Tryz.func106, Tryz.ntmps106
          go_wp2_with (first
            | (go_at_call 100; with_reducible refine (P1.out _ ?_).mono ?_; (focus (repeat' (first | (with_reducible exact Below.refl _ _) | (with_reducible assumption) | (with_reducible refine Later.step ?_ ?_ _) | (with_reducible refine Below.alloc ?_ ?_ _) | (with_reducible refine Below.drew ?_) | (with_reducible refine bel_drewN ?_ _) | (with_reducible refine bel_grown ?_ (by assumption) ?_ ?_) | (with_reducible refine Below.setCell ?_ ?_ _) | go_size))); rintro e w' ⟨rfl, hb⟩; obtain ⟨X1, rfl, hl1, hm1⟩ := later _ hb (Nat.le_refl _); clear hb; (try simp only [World.size_alloc, World.size_setCell, World.size_drew] at hm1 hl1))
            | (go_at_call 133; with_reducible refine (P2.out _).mono ?_; rintro e w' ⟨rfl, hb⟩; obtain ⟨X2, rfl, hl2, hm2⟩ := later _ hb (Nat.le_refl _); clear hb; (try simp only [World.size_alloc, World.size_setCell, World.size_drew] at hm2 hl2))
            | (go_at_call 134; with_reducible refine (P3.out _).mono ?_; rintro e w' ⟨rfl, hb⟩; obtain ⟨X3, rfl, hl3, hm3⟩ := later _ hb (Nat.le_refl _); clear hb; (try simp only [World.size_alloc, World.size_setCell, World.size_drew] at hm3 hl3))
            | (go_at_call 134; with_reducible refine (P4.out _).mono ?_; rintro e w' ⟨rfl, hb⟩; obtain ⟨X4, rfl, hl4, hm4⟩ := later _ hb (Nat.le_refl _); clear hb; (try simp only [World.size_alloc, World.size_setCell, World.size_drew] at hm4 hl4)))
          go_ret
          exact ⟨rfl, by repeat' (first | (with_reducible exact Below.refl _ _) | (with_reducible assumption) | (with_reducible refine Later.step ?_ ?_ _) | (with_reducible refine Below.alloc ?_ ?_ _) | (with_reducible refine Below.drew ?_) | (with_reducible refine bel_drewN ?_ _) | (with_reducible refine bel_grown ?_ (by assumption) ?_ ?_) | (with_reducible refine Below.setCell ?_ ?_ _) | go_size)⟩
theorem takeR_snoc {L : List Rl} {i : Nat} (h : i < L.length) : L.take (i + 1) = L.take i ++ [L.getD i rl0] := by
  rw [List.take_succ_eq_append_getElem h]
  simp [List.getD, List.getElem?_eq_getElem h]
theorem mine_snoc {L : List Rl} {i : Nat} (h : i < L.length) (a b c : Int) : mineR (L.take (i + 1)) a b c = mineR (L.take i) a b c ++ if forR (L.getD i rl0) a b c = true then [L.getD i rl0] else [] := by
  unfold mineR
  rw [takeR_snoc h, List.filter_append]
  congr 1
  by_cases hf : forR (L.getD i rl0) a b c = true
  · rw [if_pos hf, List.filter_cons_of_pos (p := fun r => forR r a b c) hf]; rfl
  · rw [if_neg hf, List.filter_cons_of_neg (p := fun r => forR r a b c) hf]; rfl
set_option maxHeartbeats 16000000 in
theorem rzoom_any (n c : Nat) (A : Option Addr) (L : List Rl) (P : Nat → Option Addr × Nat) (e1 e2 e3 x y : Int) (w : World) (h : Rls w w.heap.size A L P) (hn : L.length = n) (hn1 : n ≤ 9223372036854775806) (hbx : ∀ i, i < n → (L.getD i rl0).boxes.length ≤ 9223372036854775806) :
    Calls Tryz.prog 184 #[.slice A n c, .int .i64 e1, .int .i64 e2, .int .i64 e3, .agg #[.int .i64 x, .int .i64 y]] w fun e w' => e = .returned (.int .i64 (zoomR L e1 e2 e3 x y)) ∧ Below w.heap.size w w' := by
  have p1 := fun (Y : World) (hY : Below w.heap.size w Y) => rulesRight_any n c A L P Y ((h.keep hY).more hY.size) hn hn1 hbx
  have hZ : zoomR L e1 e2 e3 x y = if L.all rightR = true then zoomF (mineR L e1 e2 e3) x y else 0 := rfl
  have hR : L.all rightR = true → ∀ r ∈ L, 0 ≤ r.zoom ∧ r.zoom ≤ 16 := fun h9 r hr => rightR_zoom (List.all_eq_true.1 h9 r hr)
  obtain ⟨d, hd⟩ : ∃ d, L.all rightR = d := ⟨_, rfl⟩
  rw [hd] at p1 hZ hR
  rw [hZ]
  have P1 := Lib.hid p1
  have H := Lib.hid h
  have HN := Lib.hid hn
  have HB := Lib.hid hbx
  clear p1 h hn hbx hd hZ
  cases d with
  | false =>
    clear hR
    go_enter Tryz.func184, Tryz.ntmps184
    go_wp2_with (first
      | (go_at_call 55; with_reducible refine (P1.out _ ?_).mono ?_; (focus (repeat' (first | (with_reducible exact Below.refl _ _) | (with_reducible assumption) | (with_reducible refine Later.step ?_ ?_ _) | (with_reducible refine Below.alloc ?_ ?_ _) | (with_reducible refine Below.drew ?_) | (with_reducible refine bel_drewN ?_ _) | (with_reducible refine bel_grown ?_ (by assumption) ?_ ?_) | (with_reducible refine Below.setCell ?_ ?_ _) | go_size))); rintro e w' ⟨rfl, hb⟩; obtain ⟨X1, rfl, hl1, hm1⟩ := later _ hb (Nat.le_refl _); clear hb; (try simp only [World.size_alloc, World.size_setCell, World.size_drew] at hm1 hl1)))
    go_ret
    exact ⟨rfl, by repeat' (first | (with_reducible exact Below.refl _ _) | (with_reducible assumption) | (with_reducible refine Later.step ?_ ?_ _) | (with_reducible refine Below.alloc ?_ ?_ _) | (with_reducible refine Below.drew ?_) | (with_reducible refine bel_drewN ?_ _) | (with_reducible refine bel_grown ?_ (by assumption) ?_ ?_) | (with_reducible refine Below.setCell ?_ ?_ _) | go_size)⟩
  | true =>
    have HR := Lib.hid (hR rfl)
    clear hR
    rw [if_pos rfl]
    obtain ⟨R, hR⟩ : ∃ R, zoomF (mineR L e1 e2 e3) x y = R := ⟨_, rfl⟩
    rw [hR]
    have HRR := Lib.hid hR
    clear hR
    go_enter Tryz.func184, Tryz.ntmps184
    go_wp2_with (first
      | (go_at_call 55; with_reducible refine (P1.out _ ?_).mono ?_; (focus (repeat' (first | (with_reducible exact Below.refl _ _) | (with_reducible assumption) | (with_reducible refine Later.step ?_ ?_ _) | (with_reducible refine Below.alloc ?_ ?_ _) | (with_reducible refine Below.drew ?_) | (with_reducible refine bel_drewN ?_ _) | (with_reducible refine bel_grown ?_ (by assumption) ?_ ?_) | (with_reducible refine Below.setCell ?_ ?_ _) | go_size))); rintro e w' ⟨rfl, hb⟩; obtain ⟨X1, rfl, hl1, hm1⟩ := later _ hb (Nat.le_refl _); clear hb; (try simp only [World.size_alloc, World.size_setCell, World.size_drew] at hm1 hl1)))
    have b0 : X1.w.cell? ⟨w.heap.size, 0, none⟩ = some (.int .i64 x) := by go_simp
    have b1 : X1.w.cell? ⟨w.heap.size, 1, none⟩ = some (.int .i64 y) := by go_simp
    have hb1 : Below w.heap.size w X1.w := by repeat' (first | (with_reducible exact Below.refl _ _) | (with_reducible assumption) | (with_reducible refine Later.step ?_ ?_ _) | (with_reducible refine Below.alloc ?_ ?_ _) | (with_reducible refine Below.drew ?_) | (with_reducible refine bel_drewN ?_ _) | (with_reducible refine bel_grown ?_ (by assumption) ?_ ?_) | (with_reducible refine Below.setCell ?_ ?_ _) | go_size)
    have hs1 : w.heap.size < X1.w.heap.size := by go_size
    go_loopw [11, 12, 20] (fun al ca i wr => ∃ (k : Nat) (u v : Int), al = .int .i64 u ∧ ca = .int .i64 v ∧ i = .int .i64 k ∧ k ≤ n ∧ Hid ((u, v) = foldZ (mineR (L.take k) e1 e2 e3) x y) ∧ Below X1.w.heap.size X1.w wr) (fun _ _ i _ => n - (intOf i).toNat)
    case atStart => exact ⟨0, 0, 16, rfl, rfl, rfl, Nat.zero_le _, rfl, Below.refl _ _⟩
    case round =>
      obtain ⟨k, u, v, rfl, rfl, rfl, hk, hF, hb⟩ := hrel
      obtain ⟨X, rfl⟩ : ∃ X : Later X1.w.heap.size X1.w, wr = X.w := ⟨⟨wr, hb⟩, rfl⟩
      have hs := X.is.size
      clear hb
      by_cases hlt : k < n
      · have hkL : k < L.length := by rw [HN.out]; exact hlt
        obtain ⟨b, o, hA, hB, c0, c1, c2, c3, c4, c5, c6⟩ := rls_at (H.out.keep hb1) hkL
        subst hA
        have hbx := HB.out k hlt
        have hbs := (H.out.bx k hkL).up hb1 (Nat.le_of_lt hs1)
        have hms := mine_snoc hkL e1 e2 e3
        obtain ⟨A1, cc1, hP⟩ : ∃ A1 cc1, P k = (A1, cc1) := ⟨_, _, rfl⟩
        rw [hP] at c5 hbs
        obtain ⟨q, hq⟩ : ∃ q, L.getD k rl0 = q := ⟨_, rfl⟩
        rw [hq] at c0 c1 c2 c3 c4 c5 c6 hbx hbs hms
        obtain ⟨m, hm⟩ : ∃ m, q.boxes.length = m := ⟨_, rfl⟩
        rw [hm] at c5 hbx
        have p2 := fun (Y : World) (hY : Below X1.w.heap.size X1.w Y) => rfor_any q m cc1 A1 e1 e2 e3 Y (hbs.up hY hY.size) hm hbx
        have p3 := fun (Y : World) (hY : Below X1.w.heap.size X1.w Y) => rhas_any m cc1 A1 q.boxes x y Y (hbs.up hY hY.size) hm hbx
        obtain ⟨d1, hd1⟩ : ∃ d, forR q e1 e2 e3 = d := ⟨_, rfl⟩
        obtain ⟨d2, hd2⟩ : ∃ d, hasL q.boxes x y = d := ⟨_, rfl⟩
        rw [hd1] at p2 hms
        rw [hd2] at p3
        have P2 := Lib.hid p2
        have P3 := Lib.hid p3
        have hNX : foldZ (mineR (L.take (k + 1)) e1 e2 e3) x y = if d1 = true ∧ d2 = true then (if q.kind = 4 then (max u q.zoom, v) else (u, min v q.zoom)) else (u, v) := by
          rw [hms]
          cases d1 with
          | false => simp; exact hF.out.symm
          | true =>
            rw [if_pos rfl, fold_snoc, ← hF.out]
            unfold stepZ
            rw [hd2]
            cases d2 <;> simp
        have HNX := Lib.hid hNX
        clear p2 p3 hd1 hd2 hm hbs hP hms hNX hq hF
        cases d1 with
        | false =>
          go_wp2_with (first
            | (go_at_call 106; with_reducible refine (P2.out _ ?_).mono ?_; (focus (repeat' (first | (with_reducible exact Below.refl _ _) | (with_reducible assumption) | (with_reducible refine Later.step ?_ ?_ _) | (with_reducible refine Below.alloc ?_ ?_ _) | (with_reducible refine Below.drew ?_) | (with_reducible refine bel_drewN ?_ _) | (with_reducible refine bel_grown ?_ (by assumption) ?_ ?_) | (with_reducible refine Below.setCell ?_ ?_ _) | go_size))); rintro e w' ⟨rfl, hb⟩; obtain ⟨X2, rfl, hl2, hm2⟩ := later _ hb (Nat.le_refl _); clear hb; (try simp only [World.size_alloc, World.size_setCell, World.size_drew] at hm2 hl2)))
          go_roundw
          case rel => exact ⟨k + 1, u, v, rfl, rfl, by go_num, by omega, by rw [HNX.out]; rfl, by repeat' (first | (with_reducible exact Below.refl _ _) | (with_reducible assumption) | (with_reducible refine Later.step ?_ ?_ _) | (with_reducible refine Below.alloc ?_ ?_ _) | (with_reducible refine Below.drew ?_) | (with_reducible refine bel_drewN ?_ _) | (with_reducible refine bel_grown ?_ (by assumption) ?_ ?_) | (with_reducible refine Below.setCell ?_ ?_ _) | go_size)⟩
          case measure => simp [intOf]; omega
        | true =>
          cases d2 with
          | false =>
            go_wp2_with (first
              | (go_at_call 106; with_reducible refine (P2.out _ ?_).mono ?_; (focus (repeat' (first | (with_reducible exact Below.refl _ _) | (with_reducible assumption) | (with_reducible refine Later.step ?_ ?_ _) | (with_reducible refine Below.alloc ?_ ?_ _) | (with_reducible refine Below.drew ?_) | (with_reducible refine bel_drewN ?_ _) | (with_reducible refine bel_grown ?_ (by assumption) ?_ ?_) | (with_reducible refine Below.setCell ?_ ?_ _) | go_size))); rintro e w' ⟨rfl, hb⟩; obtain ⟨X2, rfl, hl2, hm2⟩ := later _ hb (Nat.le_refl _); clear hb; (try simp only [World.size_alloc, World.size_setCell, World.size_drew] at hm2 hl2))
              | (go_at_call 198; with_reducible refine (P3.out _ ?_).mono ?_; (focus (repeat' (first | (with_reducible exact Below.refl _ _) | (with_reducible assumption) | (with_reducible refine Later.step ?_ ?_ _) | (with_reducible refine Below.alloc ?_ ?_ _) | (with_reducible refine Below.drew ?_) | (with_reducible refine bel_drewN ?_ _) | (with_reducible refine bel_grown ?_ (by assumption) ?_ ?_) | (with_reducible refine Below.setCell ?_ ?_ _) | go_size))); rintro e w' ⟨rfl, hb⟩; obtain ⟨X3, rfl, hl3, hm3⟩ := later _ hb (Nat.le_refl _); clear hb; (try simp only [World.size_alloc, World.size_setCell, World.size_drew] at hm3 hl3)))
            go_roundw
            case rel => exact ⟨k + 1, u, v, rfl, rfl, by go_num, by omega, by rw [HNX.out]; rfl, by repeat' (first | (with_reducible exact Below.refl _ _) | (with_reducible assumption) | (with_reducible refine Later.step ?_ ?_ _) | (with_reducible refine Below.alloc ?_ ?_ _) | (with_reducible refine Below.drew ?_) | (with_reducible refine bel_drewN ?_ _) | (with_reducible refine bel_grown ?_ (by assumption) ?_ ?_) | (with_reducible refine Below.setCell ?_ ?_ _) | go_size)⟩
            case measure => simp [intOf]; omega
          | true =>
            by_cases k4 : q.kind = 4
            · have e4 : (q.kind == 4) = true := by simp [k4]
              have HK := Lib.hid k4
              clear k4
              go_wp2_with (first
                | (go_at_call 106; with_reducible refine (P2.out _ ?_).mono ?_; (focus (repeat' (first | (with_reducible exact Below.refl _ _) | (with_reducible assumption) | (with_reducible refine Later.step ?_ ?_ _) | (with_reducible refine Below.alloc ?_ ?_ _) | (with_reducible refine Below.drew ?_) | (with_reducible refine bel_drewN ?_ _) | (with_reducible refine bel_grown ?_ (by assumption) ?_ ?_) | (with_reducible refine Below.setCell ?_ ?_ _) | go_size))); rintro e w' ⟨rfl, hb⟩; obtain ⟨X2, rfl, hl2, hm2⟩ := later _ hb (Nat.le_refl _); clear hb; (try simp only [World.size_alloc, World.size_setCell, World.size_drew] at hm2 hl2))
                | (go_at_call 198; with_reducible refine (P3.out _ ?_).mono ?_; (focus (repeat' (first | (with_reducible exact Below.refl _ _) | (with_reducible assumption) | (with_reducible refine Later.step ?_ ?_ _) | (with_reducible refine Below.alloc ?_ ?_ _) | (with_reducible refine Below.drew ?_) | (with_reducible refine bel_drewN ?_ _) | (with_reducible refine bel_grown ?_ (by assumption) ?_ ?_) | (with_reducible refine Below.setCell ?_ ?_ _) | go_size))); rintro e w' ⟨rfl, hb⟩; obtain ⟨X3, rfl, hl3, hm3⟩ := later _ hb (Nat.le_refl _); clear hb; (try simp only [World.size_alloc, World.size_setCell, World.size_drew] at hm3 hl3)))
              go_roundw
              case rel => exact ⟨k + 1, max u q.zoom, v, rfl, rfl, by go_num, by omega, Lib.hid (HNX.out.trans ((if_pos (by simp)).trans (if_pos HK.out))).symm, by repeat' (first | (with_reducible exact Below.refl _ _) | (with_reducible assumption) | (with_reducible refine Later.step ?_ ?_ _) | (with_reducible refine Below.alloc ?_ ?_ _) | (with_reducible refine Below.drew ?_) | (with_reducible refine bel_drewN ?_ _) | (with_reducible refine bel_grown ?_ (by assumption) ?_ ?_) | (with_reducible refine Below.setCell ?_ ?_ _) | go_size)⟩
              case measure => simp [intOf]; omega
            · have e4 : (q.kind == 4) = false := by rw [beq_eq_false_iff_ne]; exact k4
              have HK := Lib.hid k4
              clear k4
              go_wp2_with (first
                | (go_at_call 106; with_reducible refine (P2.out _ ?_).mono ?_; (focus (repeat' (first | (with_reducible exact Below.refl _ _) | (with_reducible assumption) | (with_reducible refine Later.step ?_ ?_ _) | (with_reducible refine Below.alloc ?_ ?_ _) | (with_reducible refine Below.drew ?_) | (with_reducible refine bel_drewN ?_ _) | (with_reducible refine bel_grown ?_ (by assumption) ?_ ?_) | (with_reducible refine Below.setCell ?_ ?_ _) | go_size))); rintro e w' ⟨rfl, hb⟩; obtain ⟨X2, rfl, hl2, hm2⟩ := later _ hb (Nat.le_refl _); clear hb; (try simp only [World.size_alloc, World.size_setCell, World.size_drew] at hm2 hl2))
                | (go_at_call 198; with_reducible refine (P3.out _ ?_).mono ?_; (focus (repeat' (first | (with_reducible exact Below.refl _ _) | (with_reducible assumption) | (with_reducible refine Later.step ?_ ?_ _) | (with_reducible refine Below.alloc ?_ ?_ _) | (with_reducible refine Below.drew ?_) | (with_reducible refine bel_drewN ?_ _) | (with_reducible refine bel_grown ?_ (by assumption) ?_ ?_) | (with_reducible refine Below.setCell ?_ ?_ _) | go_size))); rintro e w' ⟨rfl, hb⟩; obtain ⟨X3, rfl, hl3, hm3⟩ := later _ hb (Nat.le_refl _); clear hb; (try simp only [World.size_alloc, World.size_setCell, World.size_drew] at hm3 hl3)))
              go_roundw
              case rel => exact ⟨k + 1, u, min v q.zoom, rfl, rfl, by go_num, by omega, Lib.hid (HNX.out.trans ((if_pos (by simp)).trans (if_neg HK.out))).symm, by repeat' (first | (with_reducible exact Below.refl _ _) | (with_reducible assumption) | (with_reducible refine Later.step ?_ ?_ _) | (with_reducible refine Below.alloc ?_ ?_ _) | (with_reducible refine Below.drew ?_) | (with_reducible refine bel_drewN ?_ _) | (with_reducible refine bel_grown ?_ (by assumption) ?_ ?_) | (with_reducible refine Below.setCell ?_ ?_ _) | go_size)⟩
              case measure => simp [intOf]; omega
      · obtain rfl : k = n := by omega
        obtain rfl : R = min u v := by
          rw [← HRR.out]
          have h9 := hF.out
          rw [← HN.out, List.take_length] at h9
          unfold zoomF
          rw [← h9]
        go_wp2
        go_ret
        exact ⟨rfl, by repeat' (first | (with_reducible exact Below.refl _ _) | (with_reducible assumption) | (with_reducible refine Later.step ?_ ?_ _) | (with_reducible refine Below.alloc ?_ ?_ _) | (with_reducible refine Below.drew ?_) | (with_reducible refine bel_drewN ?_ _) | (with_reducible refine bel_grown ?_ (by assumption) ?_ ?_) | (with_reducible refine Below.setCell ?_ ?_ _) | go_size)⟩
end Go.Proofs.YthlijfligikciaaGreat

/- DERIVED: THE SHELF's CONTRACTS AT THIS DUMP, IN PLAIN WORDS (tools/lay-plain.mjs out of 'YthlijfligikciaaGreatShelf.lean', which tools/lay-shelf.mjs wrote): THE SAME DECLARATIONS UNDER THE SAME NAMES: 'import', 'namespace', 'open', 'def', 'theorem' AND NOTHING ELSE: no command of the shelf's: FOR A HAND-IN. Each laying: the table of numbers ('.._ren') and one theorem, a field a fact of the dump's own or the kernel's comparison; each contract: ONE APPLICATION. -/
namespace Go.Proofs
open Go.Shelf
def Tryz.lays189_ren : Go.Shelf.Ren := ⟨fun | 189 => 114 | 125 => 146 | 257 => 145 | 128 => 165 | 129 => 166 | 294 => 156 | 295 => 157 | 296 => 158 | 297 => 159 | 298 => 160 | 299 => 161 | 216 => 162 | 300 => 163 | 301 => 164 | 328 => 187 | 329 => 188 | 330 => 189 | 331 => 190 | 332 => 191 | 215 => 192 | 343 => 200 | n => n, fun | 28 => 112 | 3 => 3 | 46 => 245 | 0 => 0 | 51 => 272 | 53 => 99 | 4 => 4 | 183 => 265 | 182 => 264 | 131 => 269 | 5 => 5 | 9 => 9 | 218 => 286 | 222 => 290 | 228 => 297 | 229 => 150 | n => n, fun | n => n⟩
theorem Tryz.lays189 : Go.Proofs.Lays.n189 Tryz.prog Tryz.lays189_ren := {
  mixed := by kernel_rfl
  f125 := Tryz.func146.trans (congrArg some (by kernel_rfl))
  f128 := Tryz.func165.trans (congrArg some (by kernel_rfl))
  f129 := Tryz.func166.trans (congrArg some (by kernel_rfl))
  f189 := Tryz.func114.trans (congrArg some (by kernel_rfl))
  f215 := Tryz.func192.trans (congrArg some (by kernel_rfl))
  f216 := Tryz.func162.trans (congrArg some (by kernel_rfl))
  f257 := Tryz.func145.trans (congrArg some (by kernel_rfl))
  f294 := Tryz.func156.trans (congrArg some (by kernel_rfl))
  f295 := Tryz.func157.trans (congrArg some (by kernel_rfl))
  f296 := Tryz.func158.trans (congrArg some (by kernel_rfl))
  f297 := Tryz.func159.trans (congrArg some (by kernel_rfl))
  f298 := Tryz.func160.trans (congrArg some (by kernel_rfl))
  f299 := Tryz.func161.trans (congrArg some (by kernel_rfl))
  f300 := Tryz.func163.trans (congrArg some (by kernel_rfl))
  f301 := Tryz.func164.trans (congrArg some (by kernel_rfl))
  f328 := Tryz.func187.trans (congrArg some (by kernel_rfl))
  f329 := Tryz.func188.trans (congrArg some (by kernel_rfl))
  f330 := Tryz.func189.trans (congrArg some (by kernel_rfl))
  f331 := Tryz.func190.trans (congrArg some (by kernel_rfl))
  f332 := Tryz.func191.trans (congrArg some (by kernel_rfl))
  f343 := Tryz.func200.trans (congrArg some (by kernel_rfl))
  t0 := Tryz.underlying0
  a0 := Tryz.isAgg0
  z0 := Tryz.sizeOf0
  v0 := Tryz.zeroValue0
  t3 := Tryz.underlying3
  a3 := Tryz.isAgg3
  z3 := Tryz.sizeOf3
  v3 := Tryz.zeroValue3
  t4 := Tryz.underlying4
  a4 := Tryz.isAgg4
  z4 := Tryz.sizeOf4
  v4 := Tryz.zeroValue4
  t5 := Tryz.underlying5
  a5 := Tryz.isAgg5
  z5 := Tryz.sizeOf5
  v5 := Tryz.zeroValue5
  t9 := Tryz.underlying9
  a9 := Tryz.isAgg9
  z9 := Tryz.sizeOf9
  v9 := Tryz.zeroValue9
  t28 := Tryz.underlying112
  a28 := Tryz.isAgg112
  z28 := Tryz.sizeOf112
  v28 := Tryz.zeroValue112
  t46 := Tryz.underlying245
  a46 := Tryz.isAgg245
  z46 := Tryz.sizeOf245
  v46 := Tryz.zeroValue245
  t51 := Tryz.underlying272
  a51 := Tryz.isAgg272
  z51 := Tryz.sizeOf272
  v51 := Tryz.zeroValue272
  t53 := Tryz.underlying99
  a53 := Tryz.isAgg99
  z53 := Tryz.sizeOf99
  v53 := Tryz.zeroValue99
  t131 := Tryz.underlying269
  a131 := Tryz.isAgg269
  z131 := Tryz.sizeOf269
  v131 := Tryz.zeroValue269
  t182 := Tryz.underlying264
  a182 := Tryz.isAgg264
  z182 := Tryz.sizeOf264
  v182 := Tryz.zeroValue264
  t183 := Tryz.underlying265
  a183 := Tryz.isAgg265
  z183 := Tryz.sizeOf265
  v183 := Tryz.zeroValue265
  t218 := Tryz.underlying286
  a218 := Tryz.isAgg286
  z218 := Tryz.sizeOf286
  v218 := Tryz.zeroValue286
  t222 := Tryz.underlying290
  a222 := Tryz.isAgg290
  z222 := Tryz.sizeOf290
  v222 := Tryz.zeroValue290
  t228 := Tryz.underlying297
  a228 := Tryz.isAgg297
  z228 := Tryz.sizeOf297
  v228 := Tryz.zeroValue297
  t229 := Tryz.underlying150
  a229 := Tryz.isAgg150
  z229 := Tryz.sizeOf150
  v229 := Tryz.zeroValue150 }
open Go.Sort Go.RowKit in
theorem Tryz.slices_Sort_int (blk off cap : Nat) (zs : List Int) (w : World) (hH : Holds (Value.int .i64) w blk off zs.toArray) (hblk : blk < w.heap.size) (hsz : zs.length < 4611686018427387904) :
    Calls Tryz.prog 114 #[.slice (some ⟨blk, off, none⟩) zs.length cap] w fun e w' =>
      e = .returned (.tuple #[]) ∧ ∃ n os, w' = grow (putRow (Value.int .i64) (Sort.ahead w n) blk off (zs.mergeSort fun x y => decide (x ≤ y)).toArray) os := Any.slices_Sort_int Tryz.lays189 blk off cap zs w hH hblk hsz
def Tryz.laysNm220_ren : Go.Shelf.Ren := ⟨fun | 20 => 115 | n => n, fun | 22 => 112 | 3 => 3 | 4 => 4 | 0 => 0 | n => n, fun | n => n⟩
theorem Tryz.laysNm220 : Go.Proofs.Lays2.n20 Tryz.prog Tryz.laysNm220_ren := {
  mixed := by kernel_rfl
  f20 := Tryz.func115.trans (congrArg some (by kernel_rfl))
  t0 := Tryz.underlying0
  a0 := Tryz.isAgg0
  z0 := Tryz.sizeOf0
  v0 := Tryz.zeroValue0
  t3 := Tryz.underlying3
  a3 := Tryz.isAgg3
  z3 := Tryz.sizeOf3
  v3 := Tryz.zeroValue3
  t4 := Tryz.underlying4
  a4 := Tryz.isAgg4
  z4 := Tryz.sizeOf4
  v4 := Tryz.zeroValue4
  t22 := Tryz.underlying112
  a22 := Tryz.isAgg112
  z22 := Tryz.sizeOf112
  v22 := Tryz.zeroValue112
  i3 := by kernel_rfl }
open Go.RowKit Go.Lib Go.Sort in
/-- slices.Compact at []int: "Compact replaces consecutive runs of equal elements with a single copy. This is like the uniq command found on Unix. Compact modifies the contents of the slice s and returns the modified slice, which may have a smaller length. Compact zeroes the elements between the new length and the original length. The result preserves the nilness of s.": IT RETURNS THE SLICE CUT TO 'Lib.compact zs'; ITS CELLS HOLD 'Lib.compact zs', THEN ZERO VALUES up to the old length; all else is as it was, but for the count of draws. IN THE WORDS OF slices.Sort's CONTRACT ('Holds', 'putRow'): so the everyday 'slices.Sort(xs); xs = slices.Compact(xs)' goes from the one contract to the other. It asks 'zs.length ≤ cap' (every slice's: the reslicing 's[:k]' looks at it). Length 0, nil: '.._empty'. (LAID: no walk: one application.) -/
theorem Tryz.slices_Compact_int (blk off cap : Nat) (zs : List Int) (w : World) (hH : Holds (Value.int .i64) w blk off zs.toArray) (hsz : zs.length ≤ 9223372036854775807) (hcap : zs.length ≤ cap) :
    Calls Tryz.prog 115 #[.slice (some ⟨blk, off, none⟩) zs.length cap] w fun e w' => e = .returned (.slice (some ⟨blk, off, none⟩) (Lib.compact zs).length cap) ∧ ∃ q, w' = putRow (Value.int .i64) (Sort.ahead w q) blk off (Lib.compact zs ++ List.replicate (zs.length - (Lib.compact zs).length) 0).toArray := Any.slices_Compact_int Tryz.laysNm220 blk off cap zs w hH hsz hcap
open Go.RowKit Go.Lib Go.Sort in
/-- The same at a slice of length 0, a nil one too: it comes back as it is. (LAID: no walk: one application.) -/
theorem Tryz.slices_Compact_int_empty (a : Option Addr) (cap : Nat) (w : World) :
    Calls Tryz.prog 115 #[.slice a 0 cap] w fun e w' => e = .returned (.slice a 0 cap) ∧ w' = w := Any.slices_Compact_int_empty Tryz.laysNm220 a cap w
open Go.RowKit Go.Sort in
/-- .. and plain. (LAID: no walk: one application.) -/
theorem Tryz.slices_Sort_int_none (p : Option Addr) (cap : Nat) (w : World) :
    Calls Tryz.prog 114 #[.slice p 0 cap] w fun e w' => e = .returned (.tuple #[]) ∧ w' = w := Any.slices_Sort_int_none Tryz.lays189 p cap w
end Go.Proofs

/- Rows of integers in memory: a slice that reads as so many numbers. No condition. -/
namespace Go.Proofs.YthlijfligikciaaGreat
set_option linter.unusedSimpArgs false
set_option linter.unusedVariables false
open Go.RowKit

theorem bel_drewN {B : Nat} {a w : World} (h : Below B a w) (n : Nat) : Below B a (w.drewN n) := h.trans ⟨rfl, rfl, rfl, Nat.le_refl _, fun _ _ => rfl⟩
theorem bel_grown {B : Nat} {a w w' : World} {row : Option Nat} (h : Below B a w) (hg : w.grownBy w' row) (hB : B ≤ w.heap.size) (hr : ∀ k, row = some k → B ≤ k) : Below B a w' := h.grown hg hB hr

theorem ne_b {a b : Int} (h : (a != b) = true) : ¬ a = b := by simpa using h
theorem eq_b {a b : Int} (h : (a != b) = false) : a = b := by simpa using h
theorem ne_e {a b : Int} (h : (a == b) = false) : ¬ a = b := by simpa using h
theorem eq_e {a b : Int} (h : (a == b) = true) : a = b := by simpa using h

/-- The number at a place (0 behind the end). -/
def atI (l : List Nat) (k : Nat) : Int := ((l.getD k 0 : Nat) : Int)
/-- All numbers are bytes. -/
def Small (l : List Nat) : Prop := ∀ x ∈ l, x < 256

theorem atI_nonneg (l : List Nat) (k : Nat) : 0 ≤ atI l k := Int.natCast_nonneg _
theorem atI_le {l : List Nat} (h : Small l) (k : Nat) : atI l k ≤ 255 := by
  unfold atI
  by_cases hk : k < l.length
  · have := h (l.getD k 0) (by simp [List.getD, hk])
    omega
  · simp [List.getD, hk]

/-- The slice value at A, n elements long, reads as the numbers f below block B. -/
def Reads (k : IntKind) (w : World) (B : Nat) (A : Option Addr) (n : Nat) (f : Nat → Int) : Prop :=
  0 < n → ∃ b o, A = some ⟨b, o, none⟩ ∧ b < B ∧ ∀ j, j < n → w.cell? ⟨b, o + j, none⟩ = some (.int k (f j))

section
variable {k : IntKind} {w w' W : World} {B C n : Nat} {A : Option Addr} {f : Nat → Int}
theorem Reads.nil (k : IntKind) (w : World) (B : Nat) (A : Option Addr) (f : Nat → Int) : Reads k w B A 0 f := fun h => absurd h (by simp)
theorem Reads.keep (h : Reads k w B A n f) (hb : Below B w w') : Reads k w' B A n f := fun hl => by
  obtain ⟨b, o, e, hB, hc⟩ := h hl
  exact ⟨b, o, e, hB, fun j hj => (hb.cell (p := ⟨b, o + j, none⟩) hB).trans (hc j hj)⟩
theorem Reads.more (h : Reads k w B A n f) (hB : B ≤ C) : Reads k w C A n f := fun hl => by
  obtain ⟨b, o, e, hb, hc⟩ := h hl
  exact ⟨b, o, e, Nat.lt_of_lt_of_le hb hB, hc⟩
theorem Reads.later (h : Reads k W B A n f) (hB : B ≤ C) (X : Later C W) : Reads k X.w B A n f := h.keep (X.is.mono hB)
theorem Reads.same {g : Nat → Int} (h : Reads k w B A n f) (e : ∀ j, j < n → f j = g j) : Reads k w B A n g := fun hl => by
  obtain ⟨b, o, hA, hB, hc⟩ := h hl
  exact ⟨b, o, hA, hB, fun j hj => by rw [hc j hj, e j hj]⟩

/-- What the law on append leaves reads as the list that was put together. -/
theorem Reads.of_own {base : Nat} {e : TypeId} {c : Nat} {xs : List Value} (h : w.ownsRow base e 1 (.slice A n c) n xs)
    (hx : ∀ j, j < n → xs[j]? = some (.int k (f j))) : Reads k w w.heap.size A n f := by
  intro hn
  obtain ⟨g, cap, hv, _, hlt⟩ := h.form hn
  have hA : A = some ⟨g, 0, none⟩ := by injection hv
  subst hA
  refine ⟨g, 0, rfl, hlt, fun j hj => ?_⟩
  rw [Nat.zero_add, h.cellAt j (by omega)]
  exact hx j hj
/-- The cells of a row of numbers. -/
def rowV (k : IntKind) (n : Nat) (f : Nat → Int) : List Value := (List.range n).map fun j => .int k (f j)
theorem rowV_get {j : Nat} (h : j < n) : (rowV k n f)[j]? = some (.int k (f j)) := by simp [rowV, h]
theorem rowV_len : (rowV k n f).length = n := by simp [rowV]
theorem rowV_one : ∀ u ∈ rowV k n f, u.oneCell' = true := by
  intro u hu
  simp only [rowV, List.mem_map] at hu
  obtain ⟨_, _, rfl⟩ := hu; rfl
theorem rowV_congr {g : Nat → Int} (h : ∀ j, j < n → f j = g j) : rowV k n f = rowV k n g := by
  unfold rowV
  exact List.map_congr_left fun j hj => by rw [h j (by simpa using hj)]
theorem rowV_succ : rowV k (n + 1) f = rowV k n f ++ [.int k (f n)] := by simp [rowV, List.range_succ]
theorem Reads.own {base : Nat} {e : TypeId} {c : Nat} (h : w.ownsRow base e 1 (.slice A n c) n (rowV k n f)) : Reads k w w.heap.size A n f := Reads.of_own h (fun j hj => rowV_get hj)

/-- What a call leaves that answers a new row and one thing more. -/
def RowPost (k : IntKind) (e : TypeId) (w : World) (n : Nat) (f : Nat → Int) (last : Value) (en : Ending) (w' : World) : Prop :=
  ∃ A c, en = .returned (.tuple #[.slice A n c, last]) ∧ w'.ownsRow w.heap.size e 1 (.slice A n c) n (rowV k n f) ∧ Below w.heap.size w w'
end
end Go.Proofs.YthlijfligikciaaGreat
