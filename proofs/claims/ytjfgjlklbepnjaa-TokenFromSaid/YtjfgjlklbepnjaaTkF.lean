/- A ticket made; tickets that are over swept: walked. No condition beyond what the table reads as. -/
import Derived.Test.YtjfgjlklbepnjaaTkD
import Derived.Test.YtjfgjlklbepnjaaEarly
namespace Go.Proofs.Ytjfgjlklbepnjaa
open Go.RowKit
set_option linter.unusedSimpArgs false
set_option linter.unusedVariables false
set_option maxRecDepth 2000

set_option maxHeartbeats 4000000 in
theorem sweep_any (q c : Nat) (A : Option Addr) (T : List Tk) (now : Int) (w : World) (h : Tab w q A c T) (hn : T.length ≤ 100) (hu : U64 T) (hg : GoodT T) :
    Calls Try.prog 32 #[.pointer (some ⟨q, 0, none⟩), .int .i64 now] w (LetPost w q A (leftT T now)) := by
  have hmf : ∀ (fn : Fn) (first cap : Array Value) (w : World), (Instr.makeFunc fn first cap).run Try.prog w = .ok (.func fn first cap) w := fun _ _ _ _ => rfl
  have p1 := let_over q c A T now w h hn hu hg
  rw [show (T.filter fun k => !decide ((grantsT T k).til < now)) = leftT T now from List.filter_congr fun k _ => by by_cases h : (grantsT T k).til < now <;> simp [h] <;> omega] at p1
  have P1 := Lib.hid p1
  clear p1 h hn hu hg
  generalize leftT T now = M at *
  go_enter Try.func32, Try.ntmps32
  go_wp2_with fail
  refine P1.out.mono ?_
  rintro e w1 ⟨rfl, hp⟩
  have HP := Lib.hid hp
  clear hp
  go_wp2
  go_end0
  exact ⟨rfl, HP.out⟩
theorem tab_app {w W w' : World} {q c n gg cap H : Nat} {A : Option Addr} {T : List Tk} {k : Tk} (h : Tab w q A c T) (hn : T.length = n) (hb : Below w.heap.size w W) (hg : W.grownBy w' (Value.slice A n c).ownBlock)
    (ho : w'.ownsRow (q + 1) 73 10 (.slice (some ⟨gg, 0, none⟩) (n + 1) cap) (n + 1) (tkV T ++ [.int .u64 (k.s : Nat), .int .u64 (k.p : Nat), .int .i64 k.g.ops, .int .i64 k.g.zoom, .int .i64 k.g.a, .int .i64 k.g.b, .int .i64 k.g.c, .int .i64 k.g.d, .bool k.g.void, .int .i64 k.g.til])) (hat : (Value.slice A n c).ownBlock = some gg ∨ gg = H) (hH : w.heap.size ≤ H) :
    Tab (w'.setCell ⟨q, 0, none⟩ (.slice (some ⟨gg, 0, none⟩) (n + 1) cap)) q (some ⟨gg, 0, none⟩) cap (T ++ [k]) ∧ TabTo w q A (w'.setCell ⟨q, 0, none⟩ (.slice (some ⟨gg, 0, none⟩) (n + 1) cap)) (some ⟨gg, 0, none⟩) := by
  subst hn
  have hl := h.lt
  have h' := h.keep hb
  have hs := hb.size
  have hs2 := hg.size
  have hne : (Value.slice A T.length c).ownBlock ≠ some q := fun e => by
    have := (h.own.lt q e).1
    omega
  have e1 : w'.cell? ⟨q, 0, none⟩ = some (.slice A T.length c) := (hg.cell_far ⟨q, 0, none⟩ (by show q < W.heap.size; omega) (Ne.symm hne)).trans h'.cell
  have e2 : w'.frozen? ⟨q, 0, none⟩ = false := (hg.frozen_far ⟨q, 0, none⟩ (by show q < W.heap.size; omega) (Ne.symm hne)).trans h'.fz
  rw [← tkV_snoc] at ho
  have hlen : (T ++ [k]).length = T.length + 1 := by simp
  refine ⟨⟨by rw [World.size_setCell]; omega, ?_, ?_, by rw [hlen]; exact own_set ho (p := ⟨q, 0, none⟩) (Nat.lt_succ_self q) _⟩, ⟨?_, ?_, ?_, by rw [World.size_setCell]; omega, fun j hj hq ha => ?_, fun a e => ?_⟩⟩
  · rw [hlen]; go_simp
  · go_simp
  · exact hg.os.trans hb.os
  · exact hg.tape.trans hb.tape
  · exact hg.output.trans hb.output
  · refine (Below.heap_setCell w' ⟨q, 0, none⟩ _ j hq).trans ((hg.block j (by omega) fun e => ?_).trans (hb.block j hj))
    cases A with
    | none => cases e
    | some a => exact ha a rfl (by injection e with e; exact e.symm)
  · injection e with e
    subst e
    rcases hat with e | e
    · left
      cases A with
      | none => cases e
      | some a => exact ⟨a, rfl, by injection e⟩
    · right
      show w.heap.size ≤ gg
      omega
set_option maxHeartbeats 8000000 in
theorem make_any (q c : Nat) (A : Option Addr) (T : List Tk) (fr draw : Nat) (g : Gr) (w : World) (h : Tab w q A c T) (hn : T.length ≤ 100) (hu : U64 T) (hd : draw < 18446744073709551616) :
    Calls Try.prog 33 #[.pointer (some ⟨q, 0, none⟩), .int .u64 (fr : Nat), .int .u64 (draw : Nat), .agg #[.int .i64 g.ops, .int .i64 g.zoom, .int .i64 g.a, .int .i64 g.b, .int .i64 g.c, .int .i64 g.d, .bool g.void, .int .i64 g.til]] w fun e w' => e = .returned (.int .i64 (makeE T draw g)) ∧ ∃ A' c', Tab w' q A' c' (makeT T fr draw g) ∧ TabTo w q A w' A' := by
  have HT := Lib.hid h
  have hq := h.lt
  have hc := h.cell
  have hz := h.fz
  have p1 := tright_any g
  cases hr : rightG g with
  | false =>
    have e1 : makeE T draw g = 1 := by unfold makeE; rw [if_pos hr]
    have e2 : makeT T fr draw g = T := by unfold makeT; rw [e1]; rfl
    rw [e1, e2]
    rw [hr] at p1
    have P1 := Lib.hid p1
    clear p1 hr e1 e2 h
    go_enter Try.func33, Try.ntmps33
    go_wp2_with (first
      | (go_at_call 27; refine (P1.out _).mono ?_; rintro e w' ⟨rfl, hb⟩; obtain ⟨X1, rfl, hl1, hm1⟩ := later _ hb (Nat.le_refl _); clear hb; (try simp only [World.size_alloc, World.size_setCell, World.size_drew] at hm1 hl1)))
    go_ret
    have hb : Below w.heap.size w X1.w := by repeat' (first | (with_reducible exact Below.refl _ _) | (with_reducible assumption) | (with_reducible refine Later.step ?_ ?_ _) | (with_reducible refine Below.alloc ?_ ?_ _) | (with_reducible refine Below.drew ?_) | (with_reducible refine bel_drewN ?_ _) | (with_reducible refine bel_grown ?_ (by assumption) ?_ ?_) | (with_reducible refine Below.setCell ?_ ?_ _) | go_size)
    exact ⟨rfl, _, _, HT.out.keep hb, TabTo.below hb⟩
  | true =>
    have P2 := Lib.hid (fun (Y : World) (hY : Below w.heap.size w Y) => listed_any q c A T Y (h.keep hY) hn)
    have P3 := Lib.hid (fun (C : Option Addr) (cc : Nat) (Y : World) (hr : Reads .u64 Y Y.heap.size C T.length (fun j => ((T.getD j t0).s : Nat))) => fresh_any C T.length cc (fun j => (T.getD j t0).s) draw Y hr (fun j => (hu.at j).1) hd (by omega))
    rw [hr] at p1
    have P1 := Lib.hid p1
    have eI : fstI (fun j => (T.getD j t0).s) draw T.length = idxT T draw := rfl
    rw [eI] at P3
    by_cases hsome : draw = 0 ∨ 0 ≤ idxT T draw
    · obtain ⟨er, her, hne⟩ : ∃ er : Int, makeE T draw g = er ∧ (er == 0) = false := by
        by_cases h0 : draw = 0
        · exact ⟨40, by unfold makeE; rw [if_neg (show ¬ rightG g = false by rw [hr]; simp), if_pos h0], rfl⟩
        · have hi := idx_some (hsome.resolve_left h0)
          exact ⟨20, by unfold makeE; rw [if_neg (show ¬ rightG g = false by rw [hr]; simp), if_neg h0, if_pos (by rw [hi.2]; rfl)], rfl⟩
      have hE : (if draw = 0 then (40 : Int) else if 0 ≤ idxT T draw then 20 else 0) = er := by
        rw [← her]
        unfold makeE
        rw [if_neg (show ¬ rightG g = false by rw [hr]; simp)]
        by_cases h0 : draw = 0
        · rw [if_pos h0, if_pos h0]
        · rw [if_neg h0, if_neg h0]
          have hi := idx_some (hsome.resolve_left h0)
          rw [if_pos (hsome.resolve_left h0), if_pos (by rw [hi.2]; rfl)]
      have e2 : makeT T fr draw g = T := by
        unfold makeT
        rw [her, if_neg (by simpa using hne)]
      rw [her, e2]
      rw [if_pos hsome, hE] at P3
      have hne' : (er != 0) = true := by simpa using hne
      clear p1 hr her e2 h hE hsome eI hu hd
      go_enter Try.func33, Try.ntmps33
      go_wp2_with (first
        | (go_at_call 27; refine (P1.out _).mono ?_; rintro e w' ⟨rfl, hb⟩; obtain ⟨X1, rfl, hl1, hm1⟩ := later _ hb (Nat.le_refl _); clear hb; (try simp only [World.size_alloc, World.size_setCell, World.size_drew] at hm1 hl1)))
      refine (P2.out _ (by repeat' (first | (with_reducible exact Below.refl _ _) | (with_reducible assumption) | (with_reducible refine Later.step ?_ ?_ _) | (with_reducible refine Below.alloc ?_ ?_ _) | (with_reducible refine Below.drew ?_) | (with_reducible refine bel_drewN ?_ _) | (with_reducible refine bel_grown ?_ (by assumption) ?_ ?_) | (with_reducible refine Below.setCell ?_ ?_ _) | go_size))).mono ?_
      rintro e w1 ⟨⟨C, cc, rfl, hr⟩, hb⟩
      have HR := Lib.hid hr
      obtain ⟨X2, rfl, hl2, hm2⟩ := later _ hb (Nat.le_refl _)
      clear hb hr
      go_wp2_with (first
        | (go_at_call 48; refine (P3.out _ _ _ HR.out).mono ?_; rintro e w' ⟨rfl, hb⟩; obtain ⟨X3, rfl, hl3, hm3⟩ := later _ hb (Nat.le_refl _); clear hb; (try simp only [World.size_alloc, World.size_setCell, World.size_drew] at hm3 hl3)))
      go_ret
      have hb : Below w.heap.size w X3.w := by repeat' (first | (with_reducible exact Below.refl _ _) | (with_reducible assumption) | (with_reducible refine Later.step ?_ ?_ _) | (with_reducible refine Below.alloc ?_ ?_ _) | (with_reducible refine Below.drew ?_) | (with_reducible refine bel_drewN ?_ _) | (with_reducible refine bel_grown ?_ (by assumption) ?_ ?_) | (with_reducible refine Below.setCell ?_ ?_ _) | go_size)
      exact ⟨rfl, _, _, HT.out.keep hb, TabTo.below hb⟩
    · have h0 : draw ≠ 0 := fun e => hsome (.inl e)
      have hnf : findT T draw = none := idx_none.1 (by omega)
      rw [if_neg hsome, if_neg h0, if_neg (by omega)] at P3
      have eN : makeE T draw g = if 8 ≤ T.length then 22 else 0 := by
        unfold makeE
        rw [if_neg (show ¬ rightG g = false by rw [hr]; simp), if_neg h0, if_neg (by rw [hnf]; simp)]
      by_cases h8 : 8 ≤ T.length
      · rw [if_pos h8] at eN
        have e2 : makeT T fr draw g = T := by
          unfold makeT
          rw [eN]
          rfl
        rw [eN, e2]
        obtain ⟨n, hnn⟩ : ∃ n, T.length = n := ⟨_, rfl⟩
        rw [hnn] at hc P2 P3 hn h8
        clear p1 hr e2 h hsome eI hu hd eN hnf h0 hnn
        go_enter Try.func33, Try.ntmps33
        go_wp2_with (first
          | (go_at_call 27; refine (P1.out _).mono ?_; rintro e w' ⟨rfl, hb⟩; obtain ⟨X1, rfl, hl1, hm1⟩ := later _ hb (Nat.le_refl _); clear hb; (try simp only [World.size_alloc, World.size_setCell, World.size_drew] at hm1 hl1)))
        refine (P2.out _ (by repeat' (first | (with_reducible exact Below.refl _ _) | (with_reducible assumption) | (with_reducible refine Later.step ?_ ?_ _) | (with_reducible refine Below.alloc ?_ ?_ _) | (with_reducible refine Below.drew ?_) | (with_reducible refine bel_drewN ?_ _) | (with_reducible refine bel_grown ?_ (by assumption) ?_ ?_) | (with_reducible refine Below.setCell ?_ ?_ _) | go_size))).mono ?_
        rintro e w1 ⟨⟨C, cc, rfl, hr⟩, hb⟩
        have HR := Lib.hid hr
        obtain ⟨X2, rfl, hl2, hm2⟩ := later _ hb (Nat.le_refl _)
        clear hb hr
        go_wp2_with (first
          | (go_at_call 48; refine (P3.out _ _ _ HR.out).mono ?_; rintro e w' ⟨rfl, hb⟩; obtain ⟨X3, rfl, hl3, hm3⟩ := later _ hb (Nat.le_refl _); clear hb; (try simp only [World.size_alloc, World.size_setCell, World.size_drew] at hm3 hl3)))
        go_ret
        have hb : Below w.heap.size w X3.w := by repeat' (first | (with_reducible exact Below.refl _ _) | (with_reducible assumption) | (with_reducible refine Later.step ?_ ?_ _) | (with_reducible refine Below.alloc ?_ ?_ _) | (with_reducible refine Below.drew ?_) | (with_reducible refine bel_drewN ?_ _) | (with_reducible refine bel_grown ?_ (by assumption) ?_ ?_) | (with_reducible refine Below.setCell ?_ ?_ _) | go_size)
        exact ⟨rfl, _, _, HT.out.keep hb, TabTo.below hb⟩
      · rw [if_neg h8] at eN
        have e2 : makeT T fr draw g = T ++ [⟨draw, fr, g⟩] := by
          unfold makeT
          rw [eN]
          rfl
        rw [eN, e2]
        obtain ⟨i0, hi, hz0, hz1, hz2⟩ := info_parts (show (Try.prog.info? 73).map (fun i => (i.zero, i.size, i.bytes)) = some (some (.agg #[.int .u64 (t0.s : Nat), .int .u64 (t0.p : Nat), .int .i64 t0.g.ops, .int .i64 t0.g.zoom, .int .i64 t0.g.a, .int .i64 t0.g.b, .int .i64 t0.g.c, .int .i64 t0.g.d, .bool t0.g.void, .int .i64 t0.g.til]), 10, 80) by kernel_rfl)
        obtain ⟨n, hnn⟩ : ∃ n, T.length = n := ⟨_, rfl⟩
        rw [hnn] at hc P2 P3 hn h8
        have HN := Lib.hid hnn
        clear p1 hr e2 h hsome eI hu hd eN hnf h0 hnn
        go_enter Try.func33, Try.ntmps33
        go_wp2_with (first
          | (go_at_call 27; refine (P1.out _).mono ?_; rintro e w' ⟨rfl, hb⟩; obtain ⟨X1, rfl, hl1, hm1⟩ := later _ hb (Nat.le_refl _); clear hb; (try simp only [World.size_alloc, World.size_setCell, World.size_drew] at hm1 hl1)))
        refine (P2.out _ (by repeat' (first | (with_reducible exact Below.refl _ _) | (with_reducible assumption) | (with_reducible refine Later.step ?_ ?_ _) | (with_reducible refine Below.alloc ?_ ?_ _) | (with_reducible refine Below.drew ?_) | (with_reducible refine bel_drewN ?_ _) | (with_reducible refine bel_grown ?_ (by assumption) ?_ ?_) | (with_reducible refine Below.setCell ?_ ?_ _) | go_size))).mono ?_
        rintro e w1 ⟨⟨C, cc, rfl, hr⟩, hb⟩
        have HR := Lib.hid hr
        obtain ⟨X2, rfl, hl2, hm2⟩ := later _ hb (Nat.le_refl _)
        clear hb hr
        go_wp2_with (first
          | (go_at_call 48; refine (P3.out _ _ _ HR.out).mono ?_; rintro e w' ⟨rfl, hb⟩; obtain ⟨X3, rfl, hl3, hm3⟩ := later _ hb (Nat.le_refl _); clear hb; (try simp only [World.size_alloc, World.size_setCell, World.size_drew] at hm3 hl3)))
        have hbX : Below w.heap.size w X3.w := by repeat' (first | (with_reducible exact Below.refl _ _) | (with_reducible assumption) | (with_reducible refine Later.step ?_ ?_ _) | (with_reducible refine Below.alloc ?_ ?_ _) | (with_reducible refine Below.drew ?_) | (with_reducible refine bel_drewN ?_ _) | (with_reducible refine bel_grown ?_ (by assumption) ?_ ?_) | (with_reducible refine Below.setCell ?_ ?_ _) | go_size)
        have cq : X3.w.cell? ⟨q, 0, none⟩ = some (.slice A n c) := by go_simp
        have cz : X3.w.frozen? ⟨q, 0, none⟩ = false := by go_simp
        have b0 : X3.w.cell? ⟨w.heap.size, 0, none⟩ = some (.int .i64 g.ops) := by go_simp
        have b1 : X3.w.cell? ⟨w.heap.size, 1, none⟩ = some (.int .i64 g.zoom) := by go_simp
        have b2 : X3.w.cell? ⟨w.heap.size, 2, none⟩ = some (.int .i64 g.a) := by go_simp
        have b3 : X3.w.cell? ⟨w.heap.size, 3, none⟩ = some (.int .i64 g.b) := by go_simp
        have b4 : X3.w.cell? ⟨w.heap.size, 4, none⟩ = some (.int .i64 g.c) := by go_simp
        have b5 : X3.w.cell? ⟨w.heap.size, 5, none⟩ = some (.int .i64 g.d) := by go_simp
        have b6 : X3.w.cell? ⟨w.heap.size, 6, none⟩ = some (.bool g.void) := by go_simp
        have b7 : X3.w.cell? ⟨w.heap.size, 7, none⟩ = some (.int .i64 g.til) := by go_simp
        have hT3 := HT.out.keep hbX
        have hsx := hbX.size
        have hbl : w.heap.size < X3.w.heap.size := by go_size
        have hown := hT3.own
        rw [HN.out] at hown
        have hne : (Value.slice A n c).ownBlock ≠ some w.heap.size := fun e => by
          have h9 := HT.out.own
          rw [HN.out] at h9
          have := (h9.lt _ e).2
          omega
        have hnq : (Value.slice A n c).ownBlock ≠ some q := fun e => by
          have := (hown.lt _ e).1
          omega
        have HOW := Lib.hid hown
        have HBX := Lib.hid hbX
        clear hown hT3 hbX
        have hfz : ∀ o, (X3.w.alloc o).frozen? ⟨q, 0, none⟩ = false := fun o => (((Below.refl X3.w.heap.size X3.w).alloc (Nat.le_refl _) o).frozen (p := ⟨q, 0, none⟩) (by simp; omega)).trans cz
        refine wp_region_early (fun w' => w'.cell? ⟨q, 0, none⟩ = some (.slice A n c) ∧ w'.cell? ⟨w.heap.size, 0, none⟩ = some (.int .i64 g.ops) ∧ w'.cell? ⟨w.heap.size, 1, none⟩ = some (.int .i64 g.zoom) ∧ w'.cell? ⟨w.heap.size, 2, none⟩ = some (.int .i64 g.a) ∧ w'.cell? ⟨w.heap.size, 3, none⟩ = some (.int .i64 g.b) ∧ w'.cell? ⟨w.heap.size, 4, none⟩ = some (.int .i64 g.c) ∧ w'.cell? ⟨w.heap.size, 5, none⟩ = some (.int .i64 g.d) ∧ w'.cell? ⟨w.heap.size, 6, none⟩ = some (.bool g.void) ∧ w'.cell? ⟨w.heap.size, 7, none⟩ = some (.int .i64 g.til)) (fun j => decide (j < 11)) (by kernel_rfl) (by go_keep) (fun HS => ?_)
        (refine wpAnyE_take (i := 0) (v := ?_) rfl (by kernel_rfl) (by kernel_rfl) (by kernel_rfl) (by kernel_rfl) (fun _ _ _ h => h) (Or.inl ⟨by rfl, ?_⟩) HS ?_; rotate_left 1; (focus (intro w9 hSw; (try dsimp only at hSw); go_simp; all_goals (with_reducible rfl))); (try simp only [Act.put, List.setIfInBounds_toArray, List.set_cons_zero, List.set_cons_succ]))
        (refine wpAnyE_take (i := 1) (v := ?_) rfl (by kernel_rfl) (by kernel_rfl) (by kernel_rfl) (by kernel_rfl) (fun _ _ _ h => h) (Or.inl ⟨by rfl, ?_⟩) HS ?_; rotate_left 1; (focus (intro w9 hSw; (try dsimp only at hSw); go_simp; all_goals (with_reducible rfl))); (try simp only [Act.put, List.setIfInBounds_toArray, List.set_cons_zero, List.set_cons_succ]))
        (refine wpAnyE_take (i := 2) (v := ?_) rfl (by kernel_rfl) (by kernel_rfl) (by kernel_rfl) (by kernel_rfl) (fun _ _ _ h => h) (Or.inl ⟨by rfl, ?_⟩) HS ?_; rotate_left 1; (focus (intro w9 hSw; (try dsimp only at hSw); go_simp; all_goals (with_reducible rfl))); (try simp only [Act.put, List.setIfInBounds_toArray, List.set_cons_zero, List.set_cons_succ]))
        (refine wpAnyE_take (i := 3) (v := ?_) rfl (by kernel_rfl) (by kernel_rfl) (by kernel_rfl) (by kernel_rfl) (fun _ _ _ h => h) (Or.inl ⟨by rfl, ?_⟩) HS ?_; rotate_left 1; (focus (intro w9 hSw; (try dsimp only at hSw); go_simp; all_goals (with_reducible rfl))); (try simp only [Act.put, List.setIfInBounds_toArray, List.set_cons_zero, List.set_cons_succ]))
        (refine wpAnyE_take (i := 4) (v := ?_) rfl (by kernel_rfl) (by kernel_rfl) (by kernel_rfl) (by kernel_rfl) (fun _ _ _ h => h) (Or.inl ⟨by rfl, ?_⟩) HS ?_; rotate_left 1; (focus (intro w9 hSw; (try dsimp only at hSw); go_simp; all_goals (with_reducible rfl))); (try simp only [Act.put, List.setIfInBounds_toArray, List.set_cons_zero, List.set_cons_succ]))
        (refine wpAnyE_take (i := 5) (v := ?_) rfl (by kernel_rfl) (by kernel_rfl) (by kernel_rfl) (by kernel_rfl) (fun _ _ _ h => h) (Or.inl ⟨by rfl, ?_⟩) HS ?_; rotate_left 1; (focus (intro w9 hSw; (try dsimp only at hSw); go_simp; all_goals (with_reducible rfl))); (try simp only [Act.put, List.setIfInBounds_toArray, List.set_cons_zero, List.set_cons_succ]))
        (refine wpAnyE_take (i := 6) (v := ?_) rfl (by kernel_rfl) (by kernel_rfl) (by kernel_rfl) (by kernel_rfl) (fun _ _ _ h => h) (Or.inl ⟨by rfl, ?_⟩) HS ?_; rotate_left 1; (focus (intro w9 hSw; (try dsimp only at hSw); go_simp; all_goals (with_reducible rfl))); (try simp only [Act.put, List.setIfInBounds_toArray, List.set_cons_zero, List.set_cons_succ]))
        (refine wpAnyE_take (i := 7) (v := ?_) rfl (by kernel_rfl) (by kernel_rfl) (by kernel_rfl) (by kernel_rfl) (fun _ _ _ h => h) (Or.inl ⟨by rfl, ?_⟩) HS ?_; rotate_left 1; (focus (intro w9 hSw; (try dsimp only at hSw); go_simp; all_goals (with_reducible rfl))); (try simp only [Act.put, List.setIfInBounds_toArray, List.set_cons_zero, List.set_cons_succ]))
        (refine wpAnyE_take (i := 8) (v := ?_) rfl (by kernel_rfl) (by kernel_rfl) (by kernel_rfl) (by kernel_rfl) (fun _ _ _ h => h) (Or.inl ⟨by rfl, ?_⟩) HS ?_; rotate_left 1; (focus (intro w9 hSw; (try dsimp only at hSw); go_simp; all_goals (with_reducible rfl))); (try simp only [Act.put, List.setIfInBounds_toArray, List.set_cons_zero, List.set_cons_succ]))
        refine wpAnyE_one (i := 9) rfl (by kernel_rfl) ?_
        go_wp2
        refine ⟨fun _ => by go_keep, ?_⟩
        refine wpAnyE_one (i := 10) rfl (by kernel_rfl) ?_
        refine wpList_append_lies _ rfl _ _ _ rfl (q + 1) 73 i0 (.agg #[.int .u64 (t0.s : Nat), .int .u64 (t0.p : Nat), .int .i64 t0.g.ops, .int .i64 t0.g.zoom, .int .i64 t0.g.a, .int .i64 t0.g.b, .int .i64 t0.g.c, .int .i64 t0.g.d, .bool t0.g.void, .int .i64 t0.g.til]) 10 80 Try.underlying66 hi hz0 hz1 hz2 rfl (by omega) (.slice A n c) n _ (by rfl) ((HOW.out.alloc _).drew) ⟨X3.w.heap.size, 0, none⟩ 1 1 [.int .u64 ((draw : Nat) : Int), .int .u64 ((fr : Nat) : Int), .int .i64 g.ops, .int .i64 g.zoom, .int .i64 g.a, .int .i64 g.b, .int .i64 g.c, .int .i64 g.d, .bool g.void, .int .i64 g.til] (by rfl) (by rfl) (World.news_of_block (cs := #[.int .u64 ((draw : Nat) : Int), .int .u64 ((fr : Nat) : Int), .int .i64 g.ops, .int .i64 g.zoom, .int .i64 g.a, .int .i64 g.b, .int .i64 g.c, .int .i64 g.d, .bool g.void, .int .i64 g.til]) (t := 73) (fr := (0, 0)) (heap_alloc_new X3.w _)) (by simp [Value.oneCell']) (by omega) (by unfold maxLen; omega) (by omega) (by simp; omega) (X3.w.heap.size + 1) (by simp) ?_
        intro gg cap w5 hown5 hgrow5 hat5 hlt5
        have y5 : w5.frozen? ⟨q, 0, none⟩ = false := (hgrow5.frozen_far _ (by simp; omega) (Ne.symm hnq)).trans (hfz _)
        have d5 : w5.cell? ⟨q, 0, none⟩ = some (.slice A n c) := (hgrow5.cell_far _ (by simp; omega) (Ne.symm hnq)).trans (by go_keep)
        refine ⟨fun _ => ⟨d5, (hgrow5.cell_far _ (by simp; omega) (Ne.symm hne)).trans (by go_keep), (hgrow5.cell_far _ (by simp; omega) (Ne.symm hne)).trans (by go_keep), (hgrow5.cell_far _ (by simp; omega) (Ne.symm hne)).trans (by go_keep), (hgrow5.cell_far _ (by simp; omega) (Ne.symm hne)).trans (by go_keep), (hgrow5.cell_far _ (by simp; omega) (Ne.symm hne)).trans (by go_keep), (hgrow5.cell_far _ (by simp; omega) (Ne.symm hne)).trans (by go_keep), (hgrow5.cell_far _ (by simp; omega) (Ne.symm hne)).trans (by go_keep), (hgrow5.cell_far _ (by simp; omega) (Ne.symm hne)).trans (by go_keep)⟩, ?_⟩
        have HE := Lib.hid (tab_app (k := ⟨draw, fr, g⟩) HT.out HN.out (Below.drew (Below.alloc HBX.out hsx _)) hgrow5 hown5 hat5 (by omega))
        clear hgrow5 hown5 hat5
        refine wpAnyE_rest (k := 11) rfl (by kernel_rfl) (fun j hj => by simp; omega) ?_
        simp only [List.drop_succ_cons, List.drop_zero]
        go_wp2
        go_ret
        exact ⟨rfl, _, _, HE.out⟩
end Go.Proofs.Ytjfgjlklbepnjaa
