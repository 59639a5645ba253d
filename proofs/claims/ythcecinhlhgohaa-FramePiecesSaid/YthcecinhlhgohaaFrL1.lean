/- The layer's statements walked: no buffer, and what does not come in. No condition. -/
import Derived.Test.YthcecinhlhgohaaFrK
import Derived.Test.YthcecinhlhgohaaRow
namespace Go.Proofs.Ythcecinhlhgohaa
open Go.RowKit
set_option linter.unusedSimpArgs false
set_option linter.unusedVariables false

/-- The bytes of a slice that came in. -/
def bytL (zs : List Int) (n : Nat) : List Nat := (List.range n).map (numF zs)
theorem bytL_len (zs : List Int) (n : Nat) : (bytL zs n).length = n := by simp [bytL]
theorem bytL_at {zs : List Int} {n j : Nat} (h : j < n) : atI (bytL zs n) j = ((numF zs j : Nat) : Int) := by simp [atI, bytL, List.getD, h]
theorem row_list {w : World} {A : Option Addr} {n c : Nat} {zs : List Int} (h : IsRow .u8 w A n c zs) :
    ∃ l : List Nat, n = l.length ∧ Small l ∧ Reads .u8 w w.heap.size A l.length (atI l) ∧ l.length ≤ c ∧ c ≤ 9223372036854775807 := by
  obtain ⟨hr, hs⟩ := row_nat8 h
  obtain ⟨_, _, h1, h2⟩ := row_len h
  refine ⟨bytL zs n, (bytL_len zs n).symm, ?_, ?_, by rw [bytL_len]; exact h1, h2⟩
  · intro x hx
    simp only [bytL, List.mem_map] at hx
    obtain ⟨j, _, rfl⟩ := hx
    exact hs j
  · rw [bytL_len]
    exact hr.same fun j hj => (bytL_at hj).symm
set_option maxHeartbeats 4000000 in
theorem nil_walk (A : Option Addr) (n c : Nat) (zs : List Int) (w : World) :
    Calls Try.prog 7 #[.slice A n c] w fun e w' => e = .returned (.bool true) ∧ Below w.heap.size w w' := by
  have P1 := Lib.hid (fun X : World => next_nil X)
  have P2 := Lib.hid (fun X : World => feed_nil A n c X)
  have P3 := Lib.hid (fun X : World => ready_nil X)
  have P4 := Lib.hid (fun X : World => waiting_nil X)
  have P5 := Lib.hid (fun X : World => over_nil X)
  go_enter Try.func7, Try.ntmps7
  go_wp2_with (first
    | (go_at_call 16; with_reducible refine (P1.out _).mono ?_; rintro e w' ⟨rfl, hb⟩; obtain ⟨X1, rfl, hl1, hm1⟩ := later (w.heap.size) hb (by first | exact Nat.le_refl _ | go_size); clear hb; (try simp only [World.size_alloc, World.size_setCell, World.size_drew] at hm1))
    | (go_at_call 10; with_reducible refine (P2.out _).mono ?_; rintro e w' ⟨rfl, hb⟩; obtain ⟨X2, rfl, hl2, hm2⟩ := later (w.heap.size) hb (by first | exact Nat.le_refl _ | go_size); clear hb; (try simp only [World.size_alloc, World.size_setCell, World.size_drew] at hm2))
    | (go_at_call 22; with_reducible refine (P3.out _).mono ?_; rintro e w' ⟨rfl, hb⟩; obtain ⟨X3, rfl, hl3, hm3⟩ := later (w.heap.size) hb (by first | exact Nat.le_refl _ | go_size); clear hb; (try simp only [World.size_alloc, World.size_setCell, World.size_drew] at hm3))
    | (go_at_call 17; with_reducible refine (P4.out _).mono ?_; rintro e w' ⟨rfl, hb⟩; obtain ⟨X4, rfl, hl4, hm4⟩ := later (w.heap.size) hb (by first | exact Nat.le_refl _ | go_size); clear hb; (try simp only [World.size_alloc, World.size_setCell, World.size_drew] at hm4))
    | (go_at_call 21; with_reducible refine (P5.out _).mono ?_; rintro e w' ⟨rfl, hb⟩; obtain ⟨X5, rfl, hl5, hm5⟩ := later (w.heap.size) hb (by first | exact Nat.le_refl _ | go_size); clear hb; (try simp only [World.size_alloc, World.size_setCell, World.size_drew] at hm5))
    | (go_at_call 8; refine (fknown_any _).mono ?_; rintro e w' ⟨rfl, hb⟩; obtain ⟨X9, rfl, hl9, hm9⟩ := later (w.heap.size) hb (by first | exact Nat.le_refl _ | go_size); clear hb; (try simp only [World.size_alloc, World.size_setCell, World.size_drew] at hm9)))
  go_ret
  exact ⟨rfl, by repeat' (first | (with_reducible exact Below.refl _ _) | (with_reducible assumption) | (with_reducible refine Later.step ?_ ?_ _) | (with_reducible refine Below.alloc ?_ ?_ _) | (with_reducible refine Below.drew ?_) | (with_reducible refine bel_drewN ?_ _) | (with_reducible refine bel_grown ?_ (by assumption) ?_ ?_) | (with_reducible refine Below.setCell ?_ ?_ _) | go_size)⟩
theorem feed_yes (q room : Nat) (l m : List Nat) (X : Option Addr) (c' : Nat) (w : World) (h : Buf w q room l 0) (hx : Reads .u8 w w.heap.size X m.length (atI m)) (hc : m.length ≤ c') (hc' : c' ≤ 9223372036854775807)
    (hroom : room ≤ 4096) (hl : l.length ≤ room) (hfit : m.length + l.length ≤ room) :
    Calls Try.prog 10 #[.pointer (some ⟨q, 0, none⟩), .slice X m.length c'] w fun e w' => e = .returned (.bool true) ∧ Below q w w' ∧ w.heap.size ≤ w'.heap.size ∧ Buf w' q room (l ++ m) 0 := by
  have := feed_any q room 0 l m X c' w h hx hc hc' hroom hl (by omega)
  have hok : fedOk room 0 l m = true := by simp [fedOk]; omega
  have h1 : fedL room 0 l m = l ++ m := by unfold fedL; rw [hok]; simp
  have h2 : fedO room 0 l m = 0 := by unfold fedO; rw [hok]; simp
  rw [hok, h1, h2] at this
  exact this
theorem feed_no (q room : Nat) (l m : List Nat) (X : Option Addr) (c' : Nat) (w : World) (h : Buf w q room l 0) (hx : Reads .u8 w w.heap.size X m.length (atI m)) (hc : m.length ≤ c') (hc' : c' ≤ 9223372036854775807)
    (hroom : room ≤ 4096) (hl : l.length ≤ room) (hfit : ¬ m.length + l.length ≤ room) :
    Calls Try.prog 10 #[.pointer (some ⟨q, 0, none⟩), .slice X m.length c'] w fun e w' => e = .returned (.bool false) ∧ Below q w w' ∧ w.heap.size ≤ w'.heap.size ∧ Buf w' q room l 0 := by
  have := feed_any q room 0 l m X c' w h hx hc hc' hroom hl (by omega)
  have hok : fedOk room 0 l m = false := by simp [fedOk]; omega
  have h1 : fedL room 0 l m = l := by unfold fedL; rw [hok]; simp
  have h2 : fedO room 0 l m = 0 := by unfold fedO; rw [hok]; simp
  rw [hok, h1, h2] at this
  exact this
set_option maxHeartbeats 4000000 in
theorem refuses_list (room : Int) (A : Option Addr) (c : Nat) (l : List Nat) (A2 : Option Addr) (c2 : Nat) (m : List Nat) (w : World)
    (hr : Reads .u8 w w.heap.size A l.length (atI l)) (hc : l.length ≤ c) (hc' : c ≤ 9223372036854775807) (hr2 : Reads .u8 w w.heap.size A2 m.length (atI m)) (hc2 : m.length ≤ c2) (hc2' : c2 ≤ 9223372036854775807) :
    Calls Try.prog 5 #[.int .i64 room, .slice A l.length c, .slice A2 m.length c2] w fun e w' => e = .returned (.bool true) ∧ Below w.heap.size w w' := by
  by_cases hroom : room < 602 ∨ 4096 < room
  · have P1 := Lib.hid (fun X : World => new_none room X hroom)
    clear hr hr2
    go_enter Try.func5, Try.ntmps5
    go_wp2_with (first
      | (go_at_call 9; with_reducible refine (P1.out _).mono ?_; rintro e w' ⟨rfl, hb⟩; obtain ⟨X1, rfl, hl1, hm1⟩ := later (w.heap.size) hb (by first | exact Nat.le_refl _ | go_size); clear hb; (try simp only [World.size_alloc, World.size_setCell, World.size_drew] at hm1))
      | (go_at_call 8; refine (fknown_any _).mono ?_; rintro e w' ⟨rfl, hb⟩; obtain ⟨X9, rfl, hl9, hm9⟩ := later (w.heap.size) hb (by first | exact Nat.le_refl _ | go_size); clear hb; (try simp only [World.size_alloc, World.size_setCell, World.size_drew] at hm9)))
    go_ret
    exact ⟨rfl, by repeat' (first | (with_reducible exact Below.refl _ _) | (with_reducible assumption) | (with_reducible refine Later.step ?_ ?_ _) | (with_reducible refine Below.alloc ?_ ?_ _) | (with_reducible refine Below.drew ?_) | (with_reducible refine bel_drewN ?_ _) | (with_reducible refine bel_grown ?_ (by assumption) ?_ ?_) | (with_reducible refine Below.setCell ?_ ?_ _) | go_size)⟩
  · obtain ⟨R, rfl⟩ := Int.eq_ofNat_of_zero_le (show 0 ≤ room by omega)
    have P1 := Lib.hid (fun X : World => new_any R X (by omega) (by omega))
    have HR := Lib.hid hr
    have HR2 := Lib.hid hr2
    have hR : R ≤ 4096 := by omega
    clear hr hr2 hroom
    by_cases f1 : l.length ≤ R
    · by_cases f2 : m.length + l.length ≤ R
      · have P2 := Lib.hid (fun (X : World) (q : Nat) (hB : Buf X q R [] 0) (hx : Below w.heap.size w X) => feed_yes q R [] l A c X hB ((HR.out.keep hx).more hx.size) hc hc' hR (by simp) (by simpa using f1))
        have P3 := Lib.hid (fun (X : World) (q : Nat) (hB : Buf X q R ([] ++ l) 0) (hx : Below w.heap.size w X) => feed_yes q R ([] ++ l) m A2 c2 X hB ((HR2.out.keep hx).more hx.size) hc2 hc2' hR (by simp; omega) (by simpa using f2))
        have P4 := Lib.hid (fun (X : World) (q : Nat) (hB : Buf X q R ([] ++ l) 0) => waiting_any q R 0 ([] ++ l) X hB (by simp; omega))
        have P5 := Lib.hid (fun (X : World) (q : Nat) (hB : Buf X q R (([] ++ l) ++ m) 0) => waiting_any q R 0 (([] ++ l) ++ m) X hB (by simp; omega))
        simp only [List.nil_append, List.length_append, List.length_nil] at P3 P4 P5
        clear HR HR2
        go_enter Try.func5, Try.ntmps5
        go_wp2_with fail
        refine (P1.out _).mono ?_
        rintro e w1 ⟨q, rfl, hq, hB1, hb1⟩
        have hs1 := hb1.size
        have hq1 := hB1.lt
        go_wp2_with fail
        refine (P2.out _ q hB1 hb1).mono ?_
        rintro e w2 ⟨rfl, hb2, hs2, hB2⟩
        have hb2' := hb1.trans (hb2.mono hq)
        (try simp only [List.nil_append] at hB2)
        go_wp2_with fail
        refine (P4.out _ q hB2).mono ?_
        rintro e w3 ⟨rfl, hb3⟩
        have hs3 := hb3.size
        have hb3' := hb2'.trans (hb3.mono (by omega))
        have hB3 := hB2.keep hb3
        go_wp2_with fail
        refine (P3.out _ q hB3 hb3').mono ?_
        rintro e w4 ⟨rfl, hb4, hs4, hB4⟩
        have hb4' := hb3'.trans (hb4.mono hq)
        (try simp only [List.nil_append] at hB4)
        go_wp2_with fail
        refine (P5.out _ q hB4).mono ?_
        rintro e w5 ⟨rfl, hb5⟩
        have hs5 := hb5.size
        have hb5' := hb4'.trans (hb5.mono (by omega))
        go_wp2_with (first
          | (go_at_call 8; refine (fknown_any _).mono ?_; rintro e w' ⟨rfl, hb⟩; obtain ⟨X9, rfl, hl9, hm9⟩ := later (w.heap.size) hb (by first | exact Nat.le_refl _ | go_size); clear hb; (try simp only [World.size_alloc, World.size_setCell, World.size_drew] at hm9)))
        go_ret
        exact ⟨rfl, hb5'.trans X9.is⟩
      · have P2 := Lib.hid (fun (X : World) (q : Nat) (hB : Buf X q R [] 0) (hx : Below w.heap.size w X) => feed_yes q R [] l A c X hB ((HR.out.keep hx).more hx.size) hc hc' hR (by simp) (by simpa using f1))
        have P3 := Lib.hid (fun (X : World) (q : Nat) (hB : Buf X q R ([] ++ l) 0) (hx : Below w.heap.size w X) => feed_no q R ([] ++ l) m A2 c2 X hB ((HR2.out.keep hx).more hx.size) hc2 hc2' hR (by simp; omega) (by simpa using f2))
        have P4 := Lib.hid (fun (X : World) (q : Nat) (hB : Buf X q R ([] ++ l) 0) => waiting_any q R 0 ([] ++ l) X hB (by simp; omega))
        have P5 := Lib.hid (fun (X : World) (q : Nat) (hB : Buf X q R ([] ++ l) 0) => waiting_any q R 0 ([] ++ l) X hB (by simp; omega))
        simp only [List.nil_append, List.length_append, List.length_nil] at P3 P4 P5
        clear HR HR2
        go_enter Try.func5, Try.ntmps5
        go_wp2_with fail
        refine (P1.out _).mono ?_
        rintro e w1 ⟨q, rfl, hq, hB1, hb1⟩
        have hs1 := hb1.size
        have hq1 := hB1.lt
        go_wp2_with fail
        refine (P2.out _ q hB1 hb1).mono ?_
        rintro e w2 ⟨rfl, hb2, hs2, hB2⟩
        have hb2' := hb1.trans (hb2.mono hq)
        (try simp only [List.nil_append] at hB2)
        go_wp2_with fail
        refine (P4.out _ q hB2).mono ?_
        rintro e w3 ⟨rfl, hb3⟩
        have hs3 := hb3.size
        have hb3' := hb2'.trans (hb3.mono (by omega))
        have hB3 := hB2.keep hb3
        go_wp2_with fail
        refine (P3.out _ q hB3 hb3').mono ?_
        rintro e w4 ⟨rfl, hb4, hs4, hB4⟩
        have hb4' := hb3'.trans (hb4.mono hq)
        (try simp only [List.nil_append] at hB4)
        go_wp2_with fail
        refine (P5.out _ q hB4).mono ?_
        rintro e w5 ⟨rfl, hb5⟩
        have hs5 := hb5.size
        have hb5' := hb4'.trans (hb5.mono (by omega))
        go_wp2_with (first
          | (go_at_call 8; refine (fknown_any _).mono ?_; rintro e w' ⟨rfl, hb⟩; obtain ⟨X9, rfl, hl9, hm9⟩ := later (w.heap.size) hb (by first | exact Nat.le_refl _ | go_size); clear hb; (try simp only [World.size_alloc, World.size_setCell, World.size_drew] at hm9)))
        go_ret
        exact ⟨rfl, hb5'.trans X9.is⟩
    · by_cases f2 : m.length ≤ R
      · have P2 := Lib.hid (fun (X : World) (q : Nat) (hB : Buf X q R [] 0) (hx : Below w.heap.size w X) => feed_no q R [] l A c X hB ((HR.out.keep hx).more hx.size) hc hc' hR (by simp) (by simpa using f1))
        have P3 := Lib.hid (fun (X : World) (q : Nat) (hB : Buf X q R [] 0) (hx : Below w.heap.size w X) => feed_yes q R [] m A2 c2 X hB ((HR2.out.keep hx).more hx.size) hc2 hc2' hR (by simp) (by simpa using f2))
        have P4 := Lib.hid (fun (X : World) (q : Nat) (hB : Buf X q R [] 0) => waiting_any q R 0 [] X hB (by simp))
        have P5 := Lib.hid (fun (X : World) (q : Nat) (hB : Buf X q R ([] ++ m) 0) => waiting_any q R 0 ([] ++ m) X hB (by simp; omega))
        simp only [List.nil_append, List.length_append, List.length_nil] at P3 P4 P5
        clear HR HR2
        go_enter Try.func5, Try.ntmps5
        go_wp2_with fail
        refine (P1.out _).mono ?_
        rintro e w1 ⟨q, rfl, hq, hB1, hb1⟩
        have hs1 := hb1.size
        have hq1 := hB1.lt
        go_wp2_with fail
        refine (P2.out _ q hB1 hb1).mono ?_
        rintro e w2 ⟨rfl, hb2, hs2, hB2⟩
        have hb2' := hb1.trans (hb2.mono hq)
        (try simp only [List.nil_append] at hB2)
        go_wp2_with fail
        refine (P4.out _ q hB2).mono ?_
        rintro e w3 ⟨rfl, hb3⟩
        have hs3 := hb3.size
        have hb3' := hb2'.trans (hb3.mono (by omega))
        have hB3 := hB2.keep hb3
        go_wp2_with fail
        refine (P3.out _ q hB3 hb3').mono ?_
        rintro e w4 ⟨rfl, hb4, hs4, hB4⟩
        have hb4' := hb3'.trans (hb4.mono hq)
        (try simp only [List.nil_append] at hB4)
        go_wp2_with fail
        refine (P5.out _ q hB4).mono ?_
        rintro e w5 ⟨rfl, hb5⟩
        have hs5 := hb5.size
        have hb5' := hb4'.trans (hb5.mono (by omega))
        go_wp2_with (first
          | (go_at_call 8; refine (fknown_any _).mono ?_; rintro e w' ⟨rfl, hb⟩; obtain ⟨X9, rfl, hl9, hm9⟩ := later (w.heap.size) hb (by first | exact Nat.le_refl _ | go_size); clear hb; (try simp only [World.size_alloc, World.size_setCell, World.size_drew] at hm9)))
        go_ret
        exact ⟨rfl, hb5'.trans X9.is⟩
      · have P2 := Lib.hid (fun (X : World) (q : Nat) (hB : Buf X q R [] 0) (hx : Below w.heap.size w X) => feed_no q R [] l A c X hB ((HR.out.keep hx).more hx.size) hc hc' hR (by simp) (by simpa using f1))
        have P3 := Lib.hid (fun (X : World) (q : Nat) (hB : Buf X q R [] 0) (hx : Below w.heap.size w X) => feed_no q R [] m A2 c2 X hB ((HR2.out.keep hx).more hx.size) hc2 hc2' hR (by simp) (by simpa using f2))
        have P4 := Lib.hid (fun (X : World) (q : Nat) (hB : Buf X q R [] 0) => waiting_any q R 0 [] X hB (by simp))
        have P5 := Lib.hid (fun (X : World) (q : Nat) (hB : Buf X q R [] 0) => waiting_any q R 0 [] X hB (by simp))
        simp only [List.nil_append, List.length_append, List.length_nil] at P3 P4 P5
        clear HR HR2
        go_enter Try.func5, Try.ntmps5
        go_wp2_with fail
        refine (P1.out _).mono ?_
        rintro e w1 ⟨q, rfl, hq, hB1, hb1⟩
        have hs1 := hb1.size
        have hq1 := hB1.lt
        go_wp2_with fail
        refine (P2.out _ q hB1 hb1).mono ?_
        rintro e w2 ⟨rfl, hb2, hs2, hB2⟩
        have hb2' := hb1.trans (hb2.mono hq)
        (try simp only [List.nil_append] at hB2)
        go_wp2_with fail
        refine (P4.out _ q hB2).mono ?_
        rintro e w3 ⟨rfl, hb3⟩
        have hs3 := hb3.size
        have hb3' := hb2'.trans (hb3.mono (by omega))
        have hB3 := hB2.keep hb3
        go_wp2_with fail
        refine (P3.out _ q hB3 hb3').mono ?_
        rintro e w4 ⟨rfl, hb4, hs4, hB4⟩
        have hb4' := hb3'.trans (hb4.mono hq)
        (try simp only [List.nil_append] at hB4)
        go_wp2_with fail
        refine (P5.out _ q hB4).mono ?_
        rintro e w5 ⟨rfl, hb5⟩
        have hs5 := hb5.size
        have hb5' := hb4'.trans (hb5.mono (by omega))
        go_wp2_with (first
          | (go_at_call 8; refine (fknown_any _).mono ?_; rintro e w' ⟨rfl, hb⟩; obtain ⟨X9, rfl, hl9, hm9⟩ := later (w.heap.size) hb (by first | exact Nat.le_refl _ | go_size); clear hb; (try simp only [World.size_alloc, World.size_setCell, World.size_drew] at hm9)))
        go_ret
        exact ⟨rfl, hb5'.trans X9.is⟩
theorem refuses_walk (room : Int) (A : Option Addr) (n c : Nat) (zs : List Int) (A2 : Option Addr) (n2 c2 : Nat) (zs2 : List Int) (w : World) (wr : (Lit.int .i64 room).wf = true) (h : IsRow .u8 w A n c zs) (h2 : IsRow .u8 w A2 n2 c2 zs2) :
    Calls Try.prog 5 #[.int .i64 room, .slice A n c, .slice A2 n2 c2] w fun e w' => e = .returned (.bool true) ∧ Below w.heap.size w w' := by
  obtain ⟨l, rfl, _, a1, a2, a3⟩ := row_list h
  obtain ⟨m, rfl, _, b1, b2, b3⟩ := row_list h2
  exact refuses_list room A c l A2 c2 m w a1 a2 a3 b1 b2 b3
end Go.Proofs.Ythcecinhlhgohaa
