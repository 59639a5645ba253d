/- The document's buffer as a value: bytes come in, walked. No condition beyond what the slices read as. -/
import Derived.Test.YthcecinhlhgohaaFrH
namespace Go.Proofs.Ythcecinhlhgohaa
open Go.RowKit
set_option linter.unusedSimpArgs false
set_option linter.unusedVariables false
set_option maxRecDepth 2000

/-- A buffer as a value and whether bytes came in are told. -/
def RFeed (A0 : Option Addr) (room over : Nat) (l m : List Nat) (w : World) (e : Ending) (w' : World) : Prop :=
  ∃ A c, e = .returned (.tuple #[.agg #[.int .i64 room, .slice A (fedL room over l m).length c, .int .i64 (fedO room over l m)], .bool (fedOk room over l m)])
    ∧ Reads .u8 w' w'.heap.size A (fedL room over l m).length (atI (fedL room over l m)) ∧ ((fedL room over l m).length ≤ c ∧ c ≤ 9223372036854775807) ∧ Below w.heap.size w w'
    ∧ (fedOk room over l m = true → 0 < (fedL room over l m).length → ∀ b o, A = some ⟨b, o, none⟩ → w.heap.size ≤ b) ∧ (fedOk room over l m = false → A = A0)
theorem join_drop (A : Option Addr) (c : Nat) (l : List Nat) (B : Option Addr) (d' : Nat) (m : List Nat) (d : Nat) (w : World) (ha : Reads .u8 w w.heap.size A l.length (atI l)) (hb : Reads .u8 w w.heap.size B (m.drop d).length (atI (m.drop d))) (hl : l.length + (m.length - d) ≤ 1000000) :
    Calls Try.prog 24 #[.slice A l.length c, .slice B (m.length - d) d'] w fun e w' => (∃ C k, e = .returned (.slice C (l.length + (m.length - d)) k) ∧ w'.ownsRow w.heap.size 5 1 (.slice C (l.length + (m.length - d)) k) (l.length + (m.length - d)) (rowV .u8 (l.length + (m.length - d)) (atI (l ++ m.drop d)))) ∧ Below w.heap.size w w' := by
  have := join_any A c l B d' (m.drop d) w ha hb (by rw [List.length_drop]; exact hl)
  rw [List.length_append, List.length_drop] at this
  exact this
set_option maxHeartbeats 4000000 in
theorem rfeed_any (room over : Nat) (A : Option Addr) (c : Nat) (l : List Nat) (X : Option Addr) (c' : Nat) (m : List Nat) (w : World) (ha : Reads .u8 w w.heap.size A l.length (atI l)) (hc : l.length ≤ c ∧ c ≤ 9223372036854775807)
    (hx : Reads .u8 w w.heap.size X m.length (atI m)) (hm : m.length ≤ c') (hm' : c' ≤ 9000000000000000000) (ho : over ≤ 1000000) (hr : room ≤ 4096) (hl : l.length ≤ room) :
    Calls Try.prog 18 #[.agg #[.int .i64 room, .slice A l.length c, .int .i64 over], .slice X m.length c'] w (RFeed A room over l m w) := by
  obtain ⟨d, hd⟩ : ∃ d, min over m.length = d := ⟨_, rfl⟩
  have P1 : ∀ Y : World, Calls Try.prog 27 #[.int .i64 over, .int .i64 m.length] Y fun e w' => e = .returned (.int .i64 d) ∧ Below Y.heap.size Y w' := fun Y => by
    have := rless_any over m.length Y
    rw [show min (over : Int) (m.length : Int) = (d : Int) by omega] at this
    exact this
  have hdn : d ≤ m.length := by omega
  have hdo : d ≤ over := by omega
  have HA := Lib.hid ha
  have HX := Lib.hid hx
  have Q1 := Lib.hid P1
  unfold RFeed fedL fedO fedOk
  rw [hd]
  clear hd P1 ha hx
  by_cases hfit : m.length - d + l.length ≤ room
  · rw [decide_eq_true hfit, if_pos rfl, if_pos rfl]
    have hcase : c' = d ∨ ¬ c' = d := by omega
    have hlen : (l ++ m.drop d).length = l.length + (m.length - d) := by rw [List.length_append, List.length_drop]
    rw [hlen, Int.ofNat_sub hdo]
    rcases hcase with hcc | hcc
    · have PJ := Lib.hid (fun (Y : World) (hY : Below w.heap.size w Y) (cd : Nat) => join_drop A c l X cd m d Y ((HA.out.keep hY).more hY.size) (fun h => absurd h (by rw [List.length_drop]; omega)) (by omega))
      clear hlen
      generalize l.length = n at *
      generalize m.length = k at *
      go_enter Try.func18, Try.ntmps18
      go_wp2_with (first
        | (go_at_call 27; with_reducible refine (Q1.out _).mono ?_; rintro e w' ⟨rfl, hb⟩; obtain ⟨X1, rfl, hl1, hm1⟩ := later (w.heap.size + 2) hb (by first | exact Nat.le_refl _ | go_size); clear hb; (try simp only [World.size_alloc, World.size_setCell, World.size_drew] at hm1)))
      have s0 : X1.w.cell? ⟨w.heap.size, 0, none⟩ = some (.int .i64 room) := by go_simp
      have s1 : X1.w.cell? ⟨w.heap.size, 1, none⟩ = some (.slice A n c) := by go_simp
      have s2 : X1.w.cell? ⟨w.heap.size, 2, none⟩ = some (.int .i64 over) := by go_simp
      have q1 : IntKind.i64.wrap ((over : Int) - (d : Int)) = (over : Int) - (d : Int) := IntWalk.i64_in _ (by omega)
      have q2 : (0 : Int) ≤ (d : Int) := by omega
      have q3 : (d : Int) ≤ (k : Int) := by omega
      have hbw : Below w.heap.size w X1.w := by repeat' (first | (with_reducible exact Below.refl _ _) | (with_reducible assumption) | (with_reducible refine Later.step ?_ ?_ _) | (with_reducible refine Below.alloc ?_ ?_ _) | (with_reducible refine Below.drew ?_) | (with_reducible refine bel_drewN ?_ _) | (with_reducible refine bel_grown ?_ (by assumption) ?_ ?_) | (with_reducible refine Below.setCell ?_ ?_ _) | go_size)
      go_region_held3 (fun w' => w'.cell? ⟨w.heap.size, 0, none⟩ = some (.int .i64 room) ∧ w'.cell? ⟨w.heap.size, 1, none⟩ = some (.slice A n c) ∧ w'.cell? ⟨w.heap.size, 2, none⟩ = some (.int .i64 over)) (go_keep)
        (first | (go_at_call 24; refine (PJ.out _ hbw.drew _).mono ?_; rintro e w2 ⟨⟨C, kk, rfl, hown⟩, hb⟩; have hcap := own_cap hown; have hs2 := hb.size; obtain ⟨Z, rfl⟩ : ∃ Z : Later X1.w.heap.size X1.w, w2 = Z.w := ⟨⟨w2, ((Below.refl X1.w.heap.size X1.w).drew).trans (hb.mono (Nat.le_refl _))⟩, rfl⟩; have HOW := Lib.hid (own_keep hown (Below.refl _ _)); clear hown hb; have t0 : Z.w.cell? ⟨w.heap.size, 0, none⟩ = some (.int .i64 room) := (by go_simp); have t1 : Z.w.cell? ⟨w.heap.size, 1, none⟩ = some (.slice A n c) := (by go_simp); have t2 : Z.w.cell? ⟨w.heap.size, 2, none⟩ = some (.int .i64 over) := (by go_simp)))
      all_goals
        go_wp2
        refine bodyPost_ret (by simp only [results, Try.results18]; go_simp; all_goals rfl) rfl ?_
        have hlt : w.heap.size + 1 < X1.w.heap.size := Nat.lt_of_lt_of_le (Nat.lt_succ_self _) hl1
        refine ⟨_, _, rfl, ?_, hcap, by repeat' (first | (with_reducible exact Below.refl _ _) | (with_reducible assumption) | (with_reducible refine Later.step ?_ ?_ _) | (with_reducible refine Below.alloc ?_ ?_ _) | (with_reducible refine Below.drew ?_) | (with_reducible refine bel_drewN ?_ _) | (with_reducible refine bel_grown ?_ (by assumption) ?_ ?_) | (with_reducible refine Below.setCell ?_ ?_ _) | go_size), fun _ hp b o e => ?_, fun h => by cases h⟩
        · exact Reads.own (own_set (own_set (own_set HOW.out hlt _) hlt _) hlt _)
        · obtain ⟨gg, cp, hv, hbase, _⟩ := HOW.out.form hp
          injection hv with hA
          rw [e] at hA
          cases hA
          exact Nat.le_trans (Nat.le_of_lt (Nat.lt_of_succ_lt hlt)) hbase
    · have PJ := Lib.hid (fun (Y : World) (hY : Below w.heap.size w Y) (cd : Nat) => join_drop A c l (Option.map (fun x => x.add d) X) cd m d Y ((HA.out.keep hY).more hY.size) (((reads_drop (i := d) HX.out (fun b o e _ => by subst e; simp [Addr.add_lit])).keep hY).more hY.size) (by omega))
      clear hlen
      generalize l.length = n at *
      generalize m.length = k at *
      go_enter Try.func18, Try.ntmps18
      go_wp2_with (first
        | (go_at_call 27; with_reducible refine (Q1.out _).mono ?_; rintro e w' ⟨rfl, hb⟩; obtain ⟨X1, rfl, hl1, hm1⟩ := later (w.heap.size + 2) hb (by first | exact Nat.le_refl _ | go_size); clear hb; (try simp only [World.size_alloc, World.size_setCell, World.size_drew] at hm1)))
      have s0 : X1.w.cell? ⟨w.heap.size, 0, none⟩ = some (.int .i64 room) := by go_simp
      have s1 : X1.w.cell? ⟨w.heap.size, 1, none⟩ = some (.slice A n c) := by go_simp
      have s2 : X1.w.cell? ⟨w.heap.size, 2, none⟩ = some (.int .i64 over) := by go_simp
      have q1 : IntKind.i64.wrap ((over : Int) - (d : Int)) = (over : Int) - (d : Int) := IntWalk.i64_in _ (by omega)
      have q2 : (0 : Int) ≤ (d : Int) := by omega
      have q3 : (d : Int) ≤ (k : Int) := by omega
      have hbw : Below w.heap.size w X1.w := by repeat' (first | (with_reducible exact Below.refl _ _) | (with_reducible assumption) | (with_reducible refine Later.step ?_ ?_ _) | (with_reducible refine Below.alloc ?_ ?_ _) | (with_reducible refine Below.drew ?_) | (with_reducible refine bel_drewN ?_ _) | (with_reducible refine bel_grown ?_ (by assumption) ?_ ?_) | (with_reducible refine Below.setCell ?_ ?_ _) | go_size)
      go_region_held3 (fun w' => w'.cell? ⟨w.heap.size, 0, none⟩ = some (.int .i64 room) ∧ w'.cell? ⟨w.heap.size, 1, none⟩ = some (.slice A n c) ∧ w'.cell? ⟨w.heap.size, 2, none⟩ = some (.int .i64 over)) (go_keep)
        (first | (go_at_call 24; refine (PJ.out _ hbw.drew _).mono ?_; rintro e w2 ⟨⟨C, kk, rfl, hown⟩, hb⟩; have hcap := own_cap hown; have hs2 := hb.size; obtain ⟨Z, rfl⟩ : ∃ Z : Later X1.w.heap.size X1.w, w2 = Z.w := ⟨⟨w2, ((Below.refl X1.w.heap.size X1.w).drew).trans (hb.mono (Nat.le_refl _))⟩, rfl⟩; have HOW := Lib.hid (own_keep hown (Below.refl _ _)); clear hown hb; have t0 : Z.w.cell? ⟨w.heap.size, 0, none⟩ = some (.int .i64 room) := (by go_simp); have t1 : Z.w.cell? ⟨w.heap.size, 1, none⟩ = some (.slice A n c) := (by go_simp); have t2 : Z.w.cell? ⟨w.heap.size, 2, none⟩ = some (.int .i64 over) := (by go_simp)))
      all_goals
        go_wp2
        refine bodyPost_ret (by simp only [results, Try.results18]; go_simp; all_goals rfl) rfl ?_
        have hlt : w.heap.size + 1 < X1.w.heap.size := Nat.lt_of_lt_of_le (Nat.lt_succ_self _) hl1
        refine ⟨_, _, rfl, ?_, hcap, by repeat' (first | (with_reducible exact Below.refl _ _) | (with_reducible assumption) | (with_reducible refine Later.step ?_ ?_ _) | (with_reducible refine Below.alloc ?_ ?_ _) | (with_reducible refine Below.drew ?_) | (with_reducible refine bel_drewN ?_ _) | (with_reducible refine bel_grown ?_ (by assumption) ?_ ?_) | (with_reducible refine Below.setCell ?_ ?_ _) | go_size), fun _ hp b o e => ?_, fun h => by cases h⟩
        · exact Reads.own (own_set (own_set (own_set HOW.out hlt _) hlt _) hlt _)
        · obtain ⟨gg, cp, hv, hbase, _⟩ := HOW.out.form hp
          injection hv with hA
          rw [e] at hA
          cases hA
          exact Nat.le_trans (Nat.le_of_lt (Nat.lt_of_succ_lt hlt)) hbase
  · rw [decide_eq_false hfit, if_neg (by simp), if_neg (by simp)]
    generalize m.length = k at *
    obtain ⟨n, hn⟩ : ∃ n, l.length = n := ⟨_, rfl⟩
    rw [hn] at hc hl hfit ⊢
    have HN := Lib.hid hn
    clear hn
    go_enter Try.func18, Try.ntmps18
    go_wp2_with (first
      | (go_at_call 27; with_reducible refine (Q1.out _).mono ?_; rintro e w' ⟨rfl, hb⟩; obtain ⟨X1, rfl, hl1, hm1⟩ := later (w.heap.size + 2) hb (by first | exact Nat.le_refl _ | go_size); clear hb; (try simp only [World.size_alloc, World.size_setCell, World.size_drew] at hm1)))
    refine bodyPost_ret (by simp only [results, Try.results18]; go_simp; all_goals rfl) rfl ?_
    refine ⟨_, c, rfl, ?_, hc, by repeat' (first | (with_reducible exact Below.refl _ _) | (with_reducible assumption) | (with_reducible refine Later.step ?_ ?_ _) | (with_reducible refine Below.alloc ?_ ?_ _) | (with_reducible refine Below.drew ?_) | (with_reducible refine bel_drewN ?_ _) | (with_reducible refine bel_grown ?_ (by assumption) ?_ ?_) | (with_reducible refine Below.setCell ?_ ?_ _) | go_size), (fun h => by cases h), (fun _ => rfl)⟩
    have := HA.out
    rw [HN.out] at this
    exact (this.keep (by repeat' (first | (with_reducible exact Below.refl _ _) | (with_reducible assumption) | (with_reducible refine Later.step ?_ ?_ _) | (with_reducible refine Below.alloc ?_ ?_ _) | (with_reducible refine Below.drew ?_) | (with_reducible refine bel_drewN ?_ _) | (with_reducible refine bel_grown ?_ (by assumption) ?_ ?_) | (with_reducible refine Below.setCell ?_ ?_ _) | go_size))).more (by go_size)
end Go.Proofs.Ythcecinhlhgohaa
