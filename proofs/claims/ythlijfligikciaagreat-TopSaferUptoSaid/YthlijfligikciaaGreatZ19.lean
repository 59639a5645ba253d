/- Several texts of one proof, joined: world without records and shapes: walked. No condition beyond what the rules read as and how many boxes there are. | The queue's entries: Len, Push, Swap, Pop at no or one entry, walked. No condition. | A map whose keys are numbers and whose values are structs: what it holds, looked up, put. No condition beyond what the memory holds. -/
import Derived.Test.YthlijfligikciaaGreatZ14
import Derived.Test.YthlijfligikciaaGreatZ18
import Derived.Laws.ResultCell
import Derived.Test.YthlijfligikciaaGreatZ13
import Derived.BigQuiet
import Derived.Test.YthlijfligikciaaGreatZ08
/- world without records and shapes: walked. No condition beyond what the rules read as and how many boxes there are. -/
namespace Go.Proofs.YthlijfligikciaaGreat
open Go.RowKit Go.Maps
set_option linter.unusedSimpArgs false
set_option linter.unusedVariables false
set_option maxRecDepth 2000

/-- What world leaves. -/
def WorldPost (L : List Rl) (w : World) (e : Ending) (w' : World) : Prop :=
  Below w.heap.size w w' ∧ ((L.length ≤ 32 ∧ L.all rightR = true ∧ ∃ P Q lo q b, e = .returned (.tuple #[.agg #[.pointer P, .pointer Q, .pointer (some ⟨q, 0, none⟩)], .bool true]) ∧ w.heap.size ≤ lo ∧ Tb w' lo q b 0 L) ∨ (¬ (L.length ≤ 32 ∧ L.all rightR = true) ∧ e = .returned (.tuple #[.agg #[.pointer none, .pointer none, .pointer none], .bool false])))
set_option maxHeartbeats 16000000 in
theorem world_any (n c : Nat) (A : Option Addr) (L : List Rl) (P : Nat → Option Addr × Nat) (w : World) (h : Rls w w.heap.size A L P) (hn : L.length = n) (hn1 : n ≤ 1000000) (hcnt : cntB L ≤ 1048576) (hPn : ∀ i, i < n → (P i).1 = none → (L.getD i rl0).boxes.length = 0) :
    Calls Tryz.prog 6 #[.slice A n c, .slice none 0 0, .slice none 0 0] w (WorldPost L w) := by
  have PG := Lib.hid (fun (Y : World) (hY : Below w.heap.size w Y) => gnew_any n c A L P Y ((h.keep hY).more hY.size) hn hn1 hcnt hPn)
  have PT := Lib.hid (fun (Y : World) => ptNew_any Y)
  have PC := Lib.hid (fun (Y : World) => cifNew_any Y)
  have HF1 := Lib.hid (show ∀ P Q lo q b w', Below w.heap.size w w' → (L.length ≤ 32 ∧ L.all rightR = true) → w.heap.size ≤ lo → Tb w' lo q b 0 L → WorldPost L w (.returned (.tuple #[.agg #[.pointer P, .pointer Q, .pointer (some ⟨q, 0, none⟩)], .bool true])) w' from fun P Q lo q b w' hb h0 hlo hT => ⟨hb, .inl ⟨h0.1, h0.2, P, Q, lo, q, b, rfl, hlo, hT⟩⟩)
  have HF2 := Lib.hid (show ∀ w', Below w.heap.size w w' → ¬ (L.length ≤ 32 ∧ L.all rightR = true) → WorldPost L w (.returned (.tuple #[.agg #[.pointer none, .pointer none, .pointer none], .bool false])) w' from fun w' hb h0 => ⟨hb, .inr ⟨h0, rfl⟩⟩)
  generalize WorldPost L w = Post at HF1 HF2 ⊢
  clear h hn hn1 hcnt hPn
  go_enter Tryz.func6, Tryz.ntmps6
  go_wp2_with fail
  go_at_call 18
  refine (PT.out _).mono ?_
  rintro e w' ⟨C, cc, rfl, hpt, _, hb⟩
  obtain ⟨X1, rfl, hl1, hm1⟩ := later _ hb (Nat.le_refl _)
  clear hpt hb
  have hz1 : w.heap.size + 1 ≤ X1.w.heap.size := Nat.le_trans (by simp) hl1
  go_wp2_with fail
  go_at_call 19
  refine (PG.out _ (by repeat' (first | (with_reducible exact Below.refl _ _) | (with_reducible assumption) | (with_reducible refine Later.step ?_ ?_ _) | (with_reducible refine Below.alloc ?_ ?_ _) | (with_reducible refine Below.drew ?_) | (with_reducible refine bel_drewN ?_ _) | (with_reducible refine bel_grown ?_ (by assumption) ?_ ?_) | (with_reducible refine Below.setCell ?_ ?_ _) | go_size))).mono ?_
  rintro e w' ⟨hb, hor⟩
  obtain ⟨X2, rfl, hl2, hm2⟩ := later _ hb (Nat.le_refl _)
  clear hb
  rcases hor with ⟨h32, hall, q, b, rfl, hT⟩ | ⟨hnot, f, hf, rfl⟩
  · have HT := Lib.hid (And.intro (And.intro h32 hall) hT)
    clear h32 hall hT
    go_wp2_with fail
    go_at_call 20
    refine (PC.out _).mono ?_
    rintro e w' ⟨⟨qc, rfl, hqc⟩, hb⟩
    obtain ⟨X3, rfl, hl3, hm3⟩ := later _ hb (Nat.le_refl _)
    have HT3 := Lib.hid (HT.out.2.keep hb)
    clear hb
    go_wp2_with fail
    go_loopw [13] (fun i wr => i = .int .i64 0 ∧ Below X3.w.heap.size X3.w wr) (fun _ _ => 0)
    case atStart => exact ⟨rfl, Below.refl _ _⟩
    case round =>
      obtain ⟨rfl, hb4⟩ := hrel
      obtain ⟨X4, rfl⟩ : ∃ X4 : Later X3.w.heap.size X3.w, wr = X4.w := ⟨⟨wr, hb4⟩, rfl⟩
      have hs4 := hb4.size
      clear hb4
      go_wp2_with fail
      go_loopw [14] (fun i w2 => i = .int .i64 0 ∧ Below X4.w.heap.size X4.w w2) (fun _ _ => 0)
      case atStart => exact ⟨rfl, Below.refl _ _⟩
      case round =>
        obtain ⟨rfl, hb5⟩ := hrel
        obtain ⟨X5, rfl⟩ : ∃ X5 : Later X4.w.heap.size X4.w, wr = X5.w := ⟨⟨wr, hb5⟩, rfl⟩
        have hs5 := hb5.size
        have h35 : Below X3.w.heap.size X3.w X5.w := by repeat' (first | (with_reducible exact Below.refl _ _) | (with_reducible assumption) | (with_reducible refine Later.step ?_ ?_ _) | (with_reducible refine Below.alloc ?_ ?_ _) | (with_reducible refine Below.drew ?_) | (with_reducible refine bel_drewN ?_ _) | (with_reducible refine bel_grown ?_ (by assumption) ?_ ?_) | (with_reducible refine Below.setCell ?_ ?_ _) | go_size)
        have hT5 := HT3.out.keep h35
        have hw5 : Below w.heap.size w X5.w := by repeat' (first | (with_reducible exact Below.refl _ _) | (with_reducible assumption) | (with_reducible refine Later.step ?_ ?_ _) | (with_reducible refine Below.alloc ?_ ?_ _) | (with_reducible refine Below.drew ?_) | (with_reducible refine bel_drewN ?_ _) | (with_reducible refine bel_grown ?_ (by assumption) ?_ ?_) | (with_reducible refine Below.setCell ?_ ?_ _) | go_size)
        have HE := Lib.hid (HF1.out (some ⟨w.heap.size + 1 + 1, 0, none⟩) (some ⟨qc, 0, none⟩) X1.w.heap.size q b (((X5.w.setCell ⟨w.heap.size, 0, none⟩ (.pointer (some ⟨w.heap.size + 1 + 1, 0, none⟩))).setCell ⟨w.heap.size, 1, none⟩ (.pointer (some ⟨qc, 0, none⟩))).setCell ⟨w.heap.size, 2, none⟩ (.pointer (some ⟨q, 0, none⟩))) (((hw5.setCell (Nat.le_refl _) _).setCell (Nat.le_refl _) _).setCell (Nat.le_refl _) _) HT.out.1 (by omega) (hT5.agree (fun j h1 h2 => by
          have hne : j ≠ w.heap.size := by omega
          rw [Below.heap_setCell _ _ _ j hne, Below.heap_setCell _ _ _ j hne, Below.heap_setCell _ _ _ j hne]) (by simp only [World.size_setCell]; omega)))
        clear h35 hT5 hw5 hb5
        go_wp2_with fail
        refine bodyPost_ret (by simp only [results, Tryz.results6]; go_simp; all_goals (first | rfl | simp [sel])) rfl HE.out
  · have hfn : (f != 0) = true := by simpa using hf
    have HNot := Lib.hid hnot
    clear hnot hf
    go_wp2_with fail
    go_at_call 20
    refine (PC.out _).mono ?_
    rintro e w' ⟨⟨qc, rfl, hqc⟩, hb⟩
    obtain ⟨X3, rfl, hl3, hm3⟩ := later _ hb (Nat.le_refl _)
    clear hb
    go_wp2_with fail
    have hw3 : Below w.heap.size w X3.w := by repeat' (first | (with_reducible exact Below.refl _ _) | (with_reducible assumption) | (with_reducible refine Later.step ?_ ?_ _) | (with_reducible refine Below.alloc ?_ ?_ _) | (with_reducible refine Below.drew ?_) | (with_reducible refine bel_drewN ?_ _) | (with_reducible refine bel_grown ?_ (by assumption) ?_ ?_) | (with_reducible refine Below.setCell ?_ ?_ _) | go_size)
    have HE := Lib.hid (HF2.out (((X3.w.setCell ⟨w.heap.size, 0, none⟩ (.pointer none)).setCell ⟨w.heap.size, 1, none⟩ (.pointer none)).setCell ⟨w.heap.size, 2, none⟩ (.pointer none)) (((hw3.setCell (Nat.le_refl _) _).setCell (Nat.le_refl _) _).setCell (Nat.le_refl _) _) HNot.out)
    clear hw3
    refine bodyPost_ret (by simp only [results, Tryz.results6]; go_simp; all_goals (first | rfl | simp [sel])) rfl HE.out
end Go.Proofs.YthlijfligikciaaGreat

/- The queue's entries: Len, Push, Swap, Pop at no or one entry, walked. No condition. -/
namespace Go.Proofs.YthlijfligikciaaGreat
open Go.RowKit Go.Maps
set_option linter.unusedSimpArgs false
set_option linter.unusedVariables false
set_option maxRecDepth 2000

/-- Only blocks of X have turned. -/
structure Chg (X : Nat → Prop) (w w' : World) : Prop where
  os : w'.os = w.os
  tape : w'.tape = w.tape
  output : w'.output = w.output
  size : w.heap.size ≤ w'.heap.size
  block : ∀ k, k < w.heap.size → ¬ X k → w'.heap[k]? = w.heap[k]?
section
variable {X X' : Nat → Prop} {w w1 w2 : World}
theorem Chg.of (h : Below w.heap.size w w1) : Chg X w w1 := ⟨h.os, h.tape, h.output, h.size, fun k hk _ => h.block k hk⟩
theorem Chg.ofGrown {r : Option Nat} (h : w.grownBy w1 r) (hr : ∀ k, r = some k → X k) : Chg X w w1 := ⟨h.os, h.tape, h.output, h.size, fun k hk hx => h.block k hk (fun e => hx (hr k e.symm))⟩
theorem Chg.trans (h : Chg X w w1) (h' : Chg X' w1 w2) (hx : ∀ k, X' k → X k ∨ w.heap.size ≤ k) : Chg X w w2 :=
  ⟨h'.os.trans h.os, h'.tape.trans h.tape, h'.output.trans h.output, Nat.le_trans h.size h'.size, fun k hk hn => (h'.block k (Nat.lt_of_lt_of_le hk h.size) (fun e => (hx k e).elim hn (fun e => by omega))).trans (h.block k hk hn)⟩
theorem Chg.mono (h : Chg X w w1) (hx : ∀ k, X k → X' k ∨ w.heap.size ≤ k) : Chg X' w w1 := ⟨h.os, h.tape, h.output, h.size, fun k hk hn => h.block k hk (fun e => (hx k e).elim hn (fun e => by omega))⟩
theorem Chg.set (h : Chg X w w1) {p : Addr} (hp : X p.block ∨ w.heap.size ≤ p.block) (u : Value) : Chg X w (w1.setCell p u) :=
  ⟨h.os, h.tape, h.output, by rw [World.size_setCell]; exact h.size, fun k hk hn => (Below.heap_setCell w1 p u k (fun e => hp.elim (fun hx => hn (by rw [e]; exact hx)) (fun e' => by omega))).trans (h.block k hk hn)⟩
theorem Chg.below {B : Nat} (h : Chg X w w1) (hx : ∀ k, X k → B ≤ k) (hB : B ≤ w.heap.size) : Below B w w1 := ⟨h.os, h.tape, h.output, h.size, fun k hk => h.block k (by omega) (fun e => by have := hx k e; omega)⟩
theorem Chg.cell (h : Chg X w w1) {p : Addr} (hp : p.block < w.heap.size) (hn : ¬ X p.block) : w1.cell? p = w.cell? p := World.cell?_of_block (h.block _ hp hn)
theorem Chg.frozen (h : Chg X w w1) {p : Addr} (hp : p.block < w.heap.size) (hn : ¬ X p.block) : w1.frozen? p = w.frozen? p := World.frozen?_of_block (h.block _ hp hn)
end
/-- A queue's entries at a cell. -/
structure Qu (w : World) (s : Nat) (C : Option Addr) (n cc : Nat) (xs : List Value) : Prop where
  c0 : w.cell? ⟨s, 0, none⟩ = some (.slice C n cc)
  fz : w.frozen? ⟨s, 0, none⟩ = false
  own : w.ownsRow (s + 1) 165 3 (.slice C n cc) n xs
theorem cell_lt {w : World} {p : Addr} {v : Value} (h : w.cell? p = some v) : p.block < w.heap.size := World.block_lt_of_cell? w p h
theorem Qu.lt {w : World} {s n cc : Nat} {C : Option Addr} {xs : List Value} (h : Qu w s C n cc xs) : s < w.heap.size := cell_lt h.c0
theorem Qu.rowlt {w : World} {s n cc : Nat} {C : Option Addr} {xs : List Value} (h : Qu w s C n cc xs) : ∀ k, gP C k → s < k ∧ k < w.heap.size := fun k hk => by
  have h1 := h.own.lt k (by rw [gOf_own]; exact hk)
  exact ⟨by omega, h1.2⟩
theorem Qu.keep {w w' : World} {s n cc : Nat} {C : Option Addr} {xs : List Value} (h : Qu w s C n cc xs) (hb : Below w.heap.size w w') : Qu w' s C n cc xs :=
  ⟨(hb.cell (p := ⟨s, 0, none⟩) h.lt).trans h.c0, (hb.frozen (p := ⟨s, 0, none⟩) h.lt).trans h.fz, own_keep h.own hb⟩
/-- A row cut to nothing is an own row. -/
theorem own_cut {w : World} {base n size cc : Nat} {e : TypeId} {C : Option Addr} {xs : List Value} (h : w.ownsRow base e size (.slice C n cc) n xs) (hn : 0 < n) : w.ownsRow base e size (.slice C 0 cc) 0 [] := by
  refine ⟨by simp, ?_⟩
  rcases h.2 with ⟨_, h0⟩ | ⟨g, cap, cur, hv, hb, hg, h1, h2, h3, h4⟩
  · omega
  · injection hv with e1 e2 e3
    subst e1 e3
    exact .inr ⟨g, cc, cur, rfl, hb, hg, Nat.zero_le _, h2, h3, by simp⟩
theorem cells_abc_new (w : World) (a b c : Value) (t : TypeId) : ∀ n u, ([a, b, c] : List Value)[n]? = some u → (w.alloc (.cells #[a, b, c] t)).cell? ((⟨w.heap.size, 0, none⟩ : Addr).add n) = some u := by
  intro n u hj
  match n, hj with
  | 0, hj | 1, hj | 2, hj => simp at hj; subst hj; simp [Addr.add]
theorem Chg.alloc {X : Nat → Prop} {w w1 : World} (h : Chg X w w1) (o : Obj) : Chg X w (w1.alloc o) := h.trans (Chg.of (X := X) ((Below.refl _ _).alloc (Nat.le_refl _) o)) (fun k hk => .inl hk)
theorem Chg.refl {X : Nat → Prop} {w : World} : Chg X w w := Chg.of (Below.refl _ _)
theorem set3_cells {w : World} {g : Nat} {a b c a' b' c' : Value} (h0 : w.cell? ⟨g, 0, none⟩ = some a') (h1 : w.cell? ⟨g, 1, none⟩ = some b') (h2 : w.cell? ⟨g, 2, none⟩ = some c') :
    (((w.setCell ⟨g, 0, none⟩ a).setCell ⟨g, 1, none⟩ b).setCell ⟨g, 2, none⟩ c).cell? ⟨g, 0, none⟩ = some a ∧ (((w.setCell ⟨g, 0, none⟩ a).setCell ⟨g, 1, none⟩ b).setCell ⟨g, 2, none⟩ c).cell? ⟨g, 1, none⟩ = some b ∧ (((w.setCell ⟨g, 0, none⟩ a).setCell ⟨g, 1, none⟩ b).setCell ⟨g, 2, none⟩ c).cell? ⟨g, 2, none⟩ = some c := by
  refine ⟨by go_simp, by go_simp, by go_simp⟩
theorem tlen_any (s n cc : Nat) (C : Option Addr) (xs : List Value) (w : World) (h : Qu w s C n cc xs) : Calls Tryz.prog 224 #[.pointer (some ⟨s, 0, none⟩)] w fun e w' => e = .returned (.int .i64 n) ∧ Below w.heap.size w w' := by
  have c0 := h.c0
  clear h
  go_enter Tryz.func224, Tryz.ntmps224
  go_wp2
  go_ret
  exact ⟨rfl, by repeat' (first | (with_reducible exact Below.refl _ _) | (with_reducible assumption) | (with_reducible refine Later.step ?_ ?_ _) | (with_reducible refine Below.alloc ?_ ?_ _) | (with_reducible refine Below.drew ?_) | (with_reducible refine Below.setCell ?_ ?_ _) | go_size)⟩
theorem assert_entry (W : World) (v : Value) : (Instr.typeAssert (.iface 165 v) 20 165 true).run Tryz.prog W = .ok (.tuple #[v, .bool true]) W := by kernel_rfl
set_option maxHeartbeats 8000000 in
theorem tpush_any (s n cc : Nat) (C : Option Addr) (xs : List Value) (k t i : Int) (w : World) (h : Qu w s C n cc xs) (hn : n ≤ 1000000) :
    Calls Tryz.prog 227 #[.pointer (some ⟨s, 0, none⟩), .iface 165 (.agg #[.int .u64 k, .int .u64 t, .int .i64 i])] w fun e w' => e = .returned (.tuple #[]) ∧ ∃ C' cc', Qu w' s C' (n + 1) cc' (xs ++ [.int .u64 k, .int .u64 t, .int .i64 i]) ∧ Chg (fun j => j = s ∨ gP C j) w w' ∧ ∀ j, gP C' j → gP C j ∨ w.heap.size ≤ j := by
  obtain ⟨i0, hi, hz0, hz1, hz2⟩ := info_parts (show (Tryz.prog.info? 165).map (fun i => (i.zero, i.size, i.bytes)) = some (some (.agg #[.int .u64 0, .int .u64 0, .int .i64 0]), 3, 24) by kernel_rfl)
  have H := Lib.hid h
  have c0 := h.c0
  have fz := h.fz
  have hs := h.lt
  have has := assert_entry
  clear h
  go_enter Tryz.func227, Tryz.ntmps227
  go_wp2_with fail
  have HS : (fun w' => w'.cell? ⟨s, 0, none⟩ = some (.slice C n cc) ∧ w'.cell? ⟨w.heap.size, 0, none⟩ = some (.int .u64 k) ∧ w'.cell? ⟨w.heap.size, 1, none⟩ = some (.int .u64 t) ∧ w'.cell? ⟨w.heap.size, 2, none⟩ = some (.int .i64 i)) (w.alloc (.cells #[.int .u64 k, .int .u64 t, .int .i64 i] 165)).drew := ⟨by go_simp, by go_simp, by go_simp, by go_simp⟩
  refine wp_region_early (fun w' => w'.cell? ⟨s, 0, none⟩ = some (.slice C n cc) ∧ w'.cell? ⟨w.heap.size, 0, none⟩ = some (.int .u64 k) ∧ w'.cell? ⟨w.heap.size, 1, none⟩ = some (.int .u64 t) ∧ w'.cell? ⟨w.heap.size, 2, none⟩ = some (.int .i64 i)) (fun j => decide (j < 8)) (by kernel_rfl) HS (fun HS => ?_)
  (refine wpAnyE_take (i := 0) (v := ?_) rfl (by kernel_rfl) (by kernel_rfl) (by kernel_rfl) (by kernel_rfl) (fun _ _ _ h => h) (Or.inl ⟨by rfl, ?_⟩) HS ?_; rotate_left 1; (focus (intro w9 hSw; (try dsimp only at hSw); go_simp; all_goals (with_reducible rfl))); (try simp only [Act.put, List.setIfInBounds_toArray, List.set_cons_zero, List.set_cons_succ]))
  (refine wpAnyE_take (i := 1) (v := ?_) rfl (by kernel_rfl) (by kernel_rfl) (by kernel_rfl) (by kernel_rfl) (fun _ _ _ h => h) (Or.inl ⟨by rfl, ?_⟩) HS ?_; rotate_left 1; (focus (intro w9 hSw; (try dsimp only at hSw); go_simp; all_goals (with_reducible rfl))); (try simp only [Act.put, List.setIfInBounds_toArray, List.set_cons_zero, List.set_cons_succ]))
  (refine wpAnyE_take (i := 2) (v := ?_) rfl (by kernel_rfl) (by kernel_rfl) (by kernel_rfl) (by kernel_rfl) (fun _ _ _ h => h) (Or.inl ⟨by rfl, ?_⟩) HS ?_; rotate_left 1; (focus (intro w9 hSw; (try dsimp only at hSw); go_simp; all_goals (with_reducible rfl))); (try simp only [Act.put, List.setIfInBounds_toArray, List.set_cons_zero, List.set_cons_succ]))
  (refine wpAnyE_take (i := 3) (v := ?_) rfl (by kernel_rfl) (by kernel_rfl) (by kernel_rfl) (by kernel_rfl) (fun _ _ _ h => h) (Or.inl ⟨by rfl, ?_⟩) HS ?_; rotate_left 1; (focus (intro w9 hSw; (try dsimp only at hSw); go_simp; all_goals (with_reducible rfl))); (try simp only [Act.put, List.setIfInBounds_toArray, List.set_cons_zero, List.set_cons_succ]))
  (refine wpAnyE_take (i := 4) (v := ?_) rfl (by kernel_rfl) (by kernel_rfl) (by kernel_rfl) (by kernel_rfl) (fun _ _ _ h => h) (Or.inl ⟨by rfl, ?_⟩) HS ?_; rotate_left 1; (focus (intro w9 hSw; (try dsimp only at hSw); go_simp; all_goals (with_reducible rfl))); (try simp only [Act.put, List.setIfInBounds_toArray, List.set_cons_zero, List.set_cons_succ]))
  (refine wpAnyE_take (i := 5) (v := ?_) rfl (by kernel_rfl) (by kernel_rfl) (by kernel_rfl) (by kernel_rfl) (fun _ _ _ h => h) (Or.inl ⟨by rfl, ?_⟩) HS ?_; rotate_left 1; (focus (intro w9 hSw; (try dsimp only at hSw); go_simp; all_goals (with_reducible rfl))); (try simp only [Act.put, List.setIfInBounds_toArray, List.set_cons_zero, List.set_cons_succ]))
  refine wpAnyE_one (i := 6) rfl (by kernel_rfl) ?_
  go_wp2_with fail
  have HS : (fun w' => w'.cell? ⟨s, 0, none⟩ = some (.slice C n cc) ∧ w'.cell? ⟨w.heap.size, 0, none⟩ = some (.int .u64 k) ∧ w'.cell? ⟨w.heap.size, 1, none⟩ = some (.int .u64 t) ∧ w'.cell? ⟨w.heap.size, 2, none⟩ = some (.int .i64 i)) ((w.alloc (.cells #[.int .u64 k, .int .u64 t, .int .i64 i] 165)).drew.alloc (.cells #[.int .u64 k, .int .u64 t, .int .i64 i] 165)) := ⟨by go_simp, by go_simp, by go_simp, by go_simp⟩
  first | refine ⟨fun _ => HS, ?_⟩ | skip
  refine wpAnyE_one (i := 7) rfl (by kernel_rfl) ?_
  have hb2 : Below w.heap.size w ((w.alloc (.cells #[.int .u64 k, .int .u64 t, .int .i64 i] 165)).drew.alloc (.cells #[.int .u64 k, .int .u64 t, .int .i64 i] 165)) := (((Below.refl w.heap.size w).alloc (Nat.le_refl _) _).drew).alloc (by simp) _
  refine wpList_append_own_at _ rfl _ _ 166 rfl (s + 1) 165 i0 (.agg #[.int .u64 0, .int .u64 0, .int .i64 0]) 3 24 Tryz.underlying166 hi hz0 hz1 hz2 rfl (by decide) (.slice C n cc) n _ (by rfl) (own_keep H.out.own hb2) ⟨w.heap.size + 1, 0, none⟩ 1 1 [.int .u64 k, .int .u64 t, .int .i64 i] (by rfl) (by rfl) (by
    have h9 := cells_abc_new (w.alloc (.cells #[.int .u64 k, .int .u64 t, .int .i64 i] 165)).drew (.int .u64 k) (.int .u64 t) (.int .i64 i) 165
    have e9 : (w.alloc (.cells #[.int .u64 k, .int .u64 t, .int .i64 i] 165)).drew.heap.size = w.heap.size + 1 := by simp
    rw [e9] at h9
    exact h9) (by intro u hu; simp at hu; rcases hu with rfl | rfl | rfl <;> rfl) (by unfold maxLen; omega) (by omega) (by simp; omega) ?_
  intro v3 w3 hown3 hgrow3 _ hat3
  obtain ⟨A3, k3, rfl⟩ := own_formN hown3
  have hc3 : Chg (fun j => j = s ∨ gP C j) w w3 := (Chg.of (X := fun j => j = s ∨ gP C j) hb2).trans (Chg.ofGrown (X := gP C) hgrow3 (fun k hk => by rw [gOf_own] at hk; exact hk)) (fun k hk => .inl (.inr hk))
  have hA3 : ∀ j, gP A3 j → gP C j ∨ w.heap.size ≤ j := fun j hj => by
    rw [gOf_own, gOf_own] at hat3
    rcases hat3 with e | e
    · exact .inl (e.symm.trans hj)
    · refine .inr ?_
      unfold gP at hj
      rw [e] at hj
      injection hj with hj
      simp at hj
      omega
  have hsr : ¬ gP C s := fun hk => by have := H.out.rowlt s hk; omega
  have hnr : ¬ gP C w.heap.size := fun hk => by have := H.out.rowlt _ hk; omega
  have q3 : ∀ p : Addr, p.block < w.heap.size + 2 → ¬ gP C p.block → w3.cell? p = ((w.alloc (.cells #[.int .u64 k, .int .u64 t, .int .i64 i] 165)).drew.alloc (.cells #[.int .u64 k, .int .u64 t, .int .i64 i] 165)).cell? p := fun p hp hn => hgrow3.cell_far p (by simp; omega) (fun e => by rw [gOf_own] at e; exact hn e.symm)
  have c3 : w3.cell? ⟨s, 0, none⟩ = some (.slice C n cc) := (q3 ⟨s, 0, none⟩ (by show s < _; omega) hsr).trans (by go_simp)
  have z3 : w3.frozen? ⟨s, 0, none⟩ = false := (hgrow3.frozen_far ⟨s, 0, none⟩ (by simp; omega) (fun e => by rw [gOf_own] at e; exact hsr e.symm)).trans (by go_simp)
  have HS3 : (fun w' => w'.cell? ⟨s, 0, none⟩ = some (.slice C n cc) ∧ w'.cell? ⟨w.heap.size, 0, none⟩ = some (.int .u64 k) ∧ w'.cell? ⟨w.heap.size, 1, none⟩ = some (.int .u64 t) ∧ w'.cell? ⟨w.heap.size, 2, none⟩ = some (.int .i64 i)) w3 := ⟨c3, (q3 ⟨w.heap.size, 0, none⟩ (by show w.heap.size < _; omega) hnr).trans (by go_simp), (q3 ⟨w.heap.size, 1, none⟩ (by show w.heap.size < _; omega) hnr).trans (by go_simp), (q3 ⟨w.heap.size, 2, none⟩ (by show w.heap.size < _; omega) hnr).trans (by go_simp)⟩
  refine ⟨fun _ => HS3, ?_⟩
  have HE := Lib.hid (And.intro (own_set hown3 (p := ⟨s, 0, none⟩) (by show s < s + 1; omega) (.slice A3 (n + 1) k3)) (And.intro (hc3.set (p := ⟨s, 0, none⟩) (.inl (.inl rfl)) (.slice A3 (n + 1) k3)) hA3))
  clear hown3 hgrow3 q3 HS HS3 hat3 hc3 hA3 hb2
  refine wpAnyE_rest (k := 8) rfl (by kernel_rfl) (fun j hj => by simp; omega) ?_
  simp only [List.drop_succ_cons, List.drop_zero]
  go_wp2_with fail
  refine bodyPost_end (v := .tuple #[]) (by first | rfl | kernel_rfl) rfl ?_
  exact ⟨rfl, A3, k3, ⟨by go_simp, by go_simp, HE.out.1⟩, HE.out.2.1, HE.out.2.2⟩
set_option maxHeartbeats 8000000 in
theorem tpop_one (s cc : Nat) (C : Option Addr) (k t i : Int) (w : World) (h : Qu w s C 1 cc [.int .u64 k, .int .u64 t, .int .i64 i]) :
    Calls Tryz.prog 226 #[.pointer (some ⟨s, 0, none⟩)] w fun e w' => e = .returned (.iface 165 (.agg #[.int .u64 k, .int .u64 t, .int .i64 i])) ∧ Qu w' s C 0 cc [] ∧ Chg (fun j => j = s) w w' := by
  have H := Lib.hid h
  have c0 := h.c0
  have fz := h.fz
  have hs := h.lt
  obtain ⟨g, cap, hv, hlo, hlt⟩ := h.own.form (by omega)
  have hC : C = some ⟨g, 0, none⟩ := by injection hv
  subst hC
  have d0 := h.own.cells (g := g) rfl 0 _ rfl
  have d1 := h.own.cells (g := g) rfl 1 _ rfl
  have d2 := h.own.cells (g := g) rfl 2 _ rfl
  rw [Addr.add_lit] at d0 d1 d2
  clear h hv
  simp only [Nat.zero_add, Nat.add_zero] at d0 d1 d2
  go_enter Tryz.func226, Tryz.ntmps226
  go_wp2_with fail
  go_ret
  exact ⟨rfl, ⟨by go_simp, by go_simp, (own_set (own_cut H.out.own (by decide)) (p := ⟨s, 0, none⟩) (by show s < s + 1; omega) _).alloc _⟩, ((Chg.refl (X := fun j => j = s)).set (p := ⟨s, 0, none⟩) (.inl rfl) _).alloc _⟩
set_option maxHeartbeats 16000000 in
theorem tswap_one (s cc : Nat) (C : Option Addr) (k t i : Int) (w : World) (h : Qu w s C 1 cc [.int .u64 k, .int .u64 t, .int .i64 i]) :
    Calls Tryz.prog 228 #[.pointer (some ⟨s, 0, none⟩), .int .i64 0, .int .i64 0] w fun e w' => e = .returned (.tuple #[]) ∧ Qu w' s C 1 cc [.int .u64 k, .int .u64 t, .int .i64 i] ∧ Chg (gP C) w w' := by
  have H := Lib.hid h
  have c0 := h.c0
  have fz := h.fz
  have hs := h.lt
  obtain ⟨g, cap, hv, hlo, hlt⟩ := h.own.form (by omega)
  have hC : C = some ⟨g, 0, none⟩ := by injection hv
  subst hC
  have d0 := h.own.cells (g := g) rfl 0 _ rfl
  have d1 := h.own.cells (g := g) rfl 1 _ rfl
  have d2 := h.own.cells (g := g) rfl 2 _ rfl
  rw [Addr.add_lit] at d0 d1 d2
  have f0 := h.own.frozenAt 0
  have f1 := h.own.frozenAt 1
  have f2 := h.own.frozenAt 2
  clear h hv
  simp only [Nat.zero_add, Nat.add_zero] at d0 d1 d2
  go_enter Tryz.func228, Tryz.ntmps228
  have HS : (fun w' => w'.cell? ⟨s, 0, none⟩ = some (.slice (some ⟨g, 0, none⟩) 1 cc) ∧ w'.cell? ⟨g, 0, none⟩ = some (.int .u64 k) ∧ w'.cell? ⟨g, 1, none⟩ = some (.int .u64 t) ∧ w'.cell? ⟨g, 2, none⟩ = some (.int .i64 i)) w.drew := ⟨by go_simp, by go_simp, by go_simp, by go_simp⟩
  refine wp_region_early (fun w' => w'.cell? ⟨s, 0, none⟩ = some (.slice (some ⟨g, 0, none⟩) 1 cc) ∧ w'.cell? ⟨g, 0, none⟩ = some (.int .u64 k) ∧ w'.cell? ⟨g, 1, none⟩ = some (.int .u64 t) ∧ w'.cell? ⟨g, 2, none⟩ = some (.int .i64 i)) (fun _ => true) (by kernel_rfl) HS (fun HS => ?_)
  (refine wpAnyE_take (i := 0) (v := ?_) rfl (by kernel_rfl) (by kernel_rfl) (by kernel_rfl) (by kernel_rfl) (fun _ _ _ h => h) (Or.inl ⟨by rfl, ?_⟩) HS ?_; rotate_left 1; (focus (intro w9 hSw; (try dsimp only at hSw); go_simp; all_goals (with_reducible rfl))); (try simp only [Act.put, List.setIfInBounds_toArray, List.set_cons_zero, List.set_cons_succ]))
  (refine wpAnyE_take (i := 1) (v := ?_) rfl (by kernel_rfl) (by kernel_rfl) (by kernel_rfl) (by kernel_rfl) (fun _ _ _ h => h) (Or.inl ⟨by rfl, ?_⟩) HS ?_; rotate_left 1; (focus (intro w9 hSw; (try dsimp only at hSw); go_simp; all_goals (with_reducible rfl))); (try simp only [Act.put, List.setIfInBounds_toArray, List.set_cons_zero, List.set_cons_succ]))
  (refine wpAnyE_take (i := 2) (v := ?_) rfl (by kernel_rfl) (by kernel_rfl) (by kernel_rfl) (by kernel_rfl) (fun _ _ _ h => h) (Or.inl ⟨by rfl, ?_⟩) HS ?_; rotate_left 1; (focus (intro w9 hSw; (try dsimp only at hSw); go_simp; all_goals (with_reducible rfl))); (try simp only [Act.put, List.setIfInBounds_toArray, List.set_cons_zero, List.set_cons_succ]))
  (refine wpAnyE_take (i := 3) (v := ?_) rfl (by kernel_rfl) (by kernel_rfl) (by kernel_rfl) (by kernel_rfl) (fun _ _ _ h => h) (Or.inl ⟨by rfl, ?_⟩) HS ?_; rotate_left 1; (focus (intro w9 hSw; (try dsimp only at hSw); go_simp; all_goals (with_reducible rfl))); (try simp only [Act.put, List.setIfInBounds_toArray, List.set_cons_zero, List.set_cons_succ]))
  (refine wpAnyE_take (i := 4) (v := ?_) rfl (by kernel_rfl) (by kernel_rfl) (by kernel_rfl) (by kernel_rfl) (fun _ _ _ h => h) (Or.inl ⟨by rfl, ?_⟩) HS ?_; rotate_left 1; (focus (intro w9 hSw; (try dsimp only at hSw); go_simp; all_goals (with_reducible rfl))); (try simp only [Act.put, List.setIfInBounds_toArray, List.set_cons_zero, List.set_cons_succ]))
  (refine wpAnyE_take (i := 5) (v := ?_) rfl (by kernel_rfl) (by kernel_rfl) (by kernel_rfl) (by kernel_rfl) (fun _ _ _ h => h) (Or.inl ⟨by rfl, ?_⟩) HS ?_; rotate_left 1; (focus (intro w9 hSw; (try dsimp only at hSw); go_simp; all_goals (with_reducible rfl))); (try simp only [Act.put, List.setIfInBounds_toArray, List.set_cons_zero, List.set_cons_succ]))
  (refine wpAnyE_take (i := 6) (v := ?_) rfl (by kernel_rfl) (by kernel_rfl) (by kernel_rfl) (by kernel_rfl) (fun _ _ _ h => h) (Or.inl ⟨by rfl, ?_⟩) HS ?_; rotate_left 1; (focus (intro w9 hSw; (try dsimp only at hSw); go_simp; all_goals (with_reducible rfl))); (try simp only [Act.put, List.setIfInBounds_toArray, List.set_cons_zero, List.set_cons_succ]))
  (refine wpAnyE_take (i := 7) (v := ?_) rfl (by kernel_rfl) (by kernel_rfl) (by kernel_rfl) (by kernel_rfl) (fun _ _ _ h => h) (Or.inl ⟨by rfl, ?_⟩) HS ?_; rotate_left 1; (focus (intro w9 hSw; (try dsimp only at hSw); go_simp; all_goals (with_reducible rfl))); (try simp only [Act.put, List.setIfInBounds_toArray, List.set_cons_zero, List.set_cons_succ]))
  (refine wpAnyE_take (i := 8) (v := ?_) rfl (by kernel_rfl) (by kernel_rfl) (by kernel_rfl) (by kernel_rfl) (fun _ _ _ h => h) (Or.inl ⟨by rfl, ?_⟩) HS ?_; rotate_left 1; (focus (intro w9 hSw; (try dsimp only at hSw); go_simp; all_goals (with_reducible rfl))); (try simp only [Act.put, List.setIfInBounds_toArray, List.set_cons_zero, List.set_cons_succ]))
  (refine wpAnyE_take (i := 9) (v := ?_) rfl (by kernel_rfl) (by kernel_rfl) (by kernel_rfl) (by kernel_rfl) (fun _ _ _ h => h) (Or.inl ⟨by rfl, ?_⟩) HS ?_; rotate_left 1; (focus (intro w9 hSw; (try dsimp only at hSw); go_simp; all_goals (with_reducible rfl))); (try simp only [Act.put, List.setIfInBounds_toArray, List.set_cons_zero, List.set_cons_succ]))
  (refine wpAnyE_take (i := 10) (v := ?_) rfl (by kernel_rfl) (by kernel_rfl) (by kernel_rfl) (by kernel_rfl) (fun _ _ _ h => h) (Or.inl ⟨by rfl, ?_⟩) HS ?_; rotate_left 1; (focus (intro w9 hSw; (try dsimp only at hSw); go_simp; all_goals (with_reducible rfl))); (try simp only [Act.put, List.setIfInBounds_toArray, List.set_cons_zero, List.set_cons_succ]))
  (refine wpAnyE_take (i := 11) (v := ?_) rfl (by kernel_rfl) (by kernel_rfl) (by kernel_rfl) (by kernel_rfl) (fun _ _ _ h => h) (Or.inl ⟨by rfl, ?_⟩) HS ?_; rotate_left 1; (focus (intro w9 hSw; (try dsimp only at hSw); go_simp; all_goals (with_reducible rfl))); (try simp only [Act.put, List.setIfInBounds_toArray, List.set_cons_zero, List.set_cons_succ]))
  (refine wpAnyE_take (i := 12) (v := ?_) rfl (by kernel_rfl) (by kernel_rfl) (by kernel_rfl) (by kernel_rfl) (fun _ _ _ h => h) (Or.inl ⟨by rfl, ?_⟩) HS ?_; rotate_left 1; (focus (intro w9 hSw; (try dsimp only at hSw); go_simp; all_goals (with_reducible rfl))); (try simp only [Act.put, List.setIfInBounds_toArray, List.set_cons_zero, List.set_cons_succ]))
  (refine wpAnyE_take (i := 13) (v := ?_) rfl (by kernel_rfl) (by kernel_rfl) (by kernel_rfl) (by kernel_rfl) (fun _ _ _ h => h) (Or.inl ⟨by rfl, ?_⟩) HS ?_; rotate_left 1; (focus (intro w9 hSw; (try dsimp only at hSw); go_simp; all_goals (with_reducible rfl))); (try simp only [Act.put, List.setIfInBounds_toArray, List.set_cons_zero, List.set_cons_succ]))
  (refine wpAnyE_take (i := 14) (v := ?_) rfl (by kernel_rfl) (by kernel_rfl) (by kernel_rfl) (by kernel_rfl) (fun _ _ _ h => h) (Or.inl ⟨by rfl, ?_⟩) HS ?_; rotate_left 1; (focus (intro w9 hSw; (try dsimp only at hSw); go_simp; all_goals (with_reducible rfl))); (try simp only [Act.put, List.setIfInBounds_toArray, List.set_cons_zero, List.set_cons_succ]))
  (refine wpAnyE_take (i := 15) (v := ?_) rfl (by kernel_rfl) (by kernel_rfl) (by kernel_rfl) (by kernel_rfl) (fun _ _ _ h => h) (Or.inl ⟨by rfl, ?_⟩) HS ?_; rotate_left 1; (focus (intro w9 hSw; (try dsimp only at hSw); go_simp; all_goals (with_reducible rfl))); (try simp only [Act.put, List.setIfInBounds_toArray, List.set_cons_zero, List.set_cons_succ]))
  (refine wpAnyE_take (i := 16) (v := ?_) rfl (by kernel_rfl) (by kernel_rfl) (by kernel_rfl) (by kernel_rfl) (fun _ _ _ h => h) (Or.inl ⟨by rfl, ?_⟩) HS ?_; rotate_left 1; (focus (intro w9 hSw; (try dsimp only at hSw); go_simp; all_goals (with_reducible rfl))); (try simp only [Act.put, List.setIfInBounds_toArray, List.set_cons_zero, List.set_cons_succ]))
  (refine wpAnyE_take (i := 17) (v := ?_) rfl (by kernel_rfl) (by kernel_rfl) (by kernel_rfl) (by kernel_rfl) (fun _ _ _ h => h) (Or.inl ⟨by rfl, ?_⟩) HS ?_; rotate_left 1; (focus (intro w9 hSw; (try dsimp only at hSw); go_simp; all_goals (with_reducible rfl))); (try simp only [Act.put, List.setIfInBounds_toArray, List.set_cons_zero, List.set_cons_succ]))
  (refine wpAnyE_take (i := 18) (v := ?_) rfl (by kernel_rfl) (by kernel_rfl) (by kernel_rfl) (by kernel_rfl) (fun _ _ _ h => h) (Or.inl ⟨by rfl, ?_⟩) HS ?_; rotate_left 1; (focus (intro w9 hSw; (try dsimp only at hSw); go_simp; all_goals (with_reducible rfl))); (try simp only [Act.put, List.setIfInBounds_toArray, List.set_cons_zero, List.set_cons_succ]))
  (refine wpAnyE_take (i := 19) (v := ?_) rfl (by kernel_rfl) (by kernel_rfl) (by kernel_rfl) (by kernel_rfl) (fun _ _ _ h => h) (Or.inl ⟨by rfl, ?_⟩) HS ?_; rotate_left 1; (focus (intro w9 hSw; (try dsimp only at hSw); go_simp; all_goals (with_reducible rfl))); (try simp only [Act.put, List.setIfInBounds_toArray, List.set_cons_zero, List.set_cons_succ]))
  (refine wpAnyE_take (i := 20) (v := ?_) rfl (by kernel_rfl) (by kernel_rfl) (by kernel_rfl) (by kernel_rfl) (fun _ _ _ h => h) (Or.inl ⟨by rfl, ?_⟩) HS ?_; rotate_left 1; (focus (intro w9 hSw; (try dsimp only at hSw); go_simp; all_goals (with_reducible rfl))); (try simp only [Act.put, List.setIfInBounds_toArray, List.set_cons_zero, List.set_cons_succ]))
  (refine wpAnyE_take (i := 21) (v := ?_) rfl (by kernel_rfl) (by kernel_rfl) (by kernel_rfl) (by kernel_rfl) (fun _ _ _ h => h) (Or.inl ⟨by rfl, ?_⟩) HS ?_; rotate_left 1; (focus (intro w9 hSw; (try dsimp only at hSw); go_simp; all_goals (with_reducible rfl))); (try simp only [Act.put, List.setIfInBounds_toArray, List.set_cons_zero, List.set_cons_succ]))
  (refine wpAnyE_take (i := 22) (v := ?_) rfl (by kernel_rfl) (by kernel_rfl) (by kernel_rfl) (by kernel_rfl) (fun _ _ _ h => h) (Or.inl ⟨by rfl, ?_⟩) HS ?_; rotate_left 1; (focus (intro w9 hSw; (try dsimp only at hSw); go_simp; all_goals (with_reducible rfl))); (try simp only [Act.put, List.setIfInBounds_toArray, List.set_cons_zero, List.set_cons_succ]))
  (refine wpAnyE_take (i := 23) (v := ?_) rfl (by kernel_rfl) (by kernel_rfl) (by kernel_rfl) (by kernel_rfl) (fun _ _ _ h => h) (Or.inl ⟨by rfl, ?_⟩) HS ?_; rotate_left 1; (focus (intro w9 hSw; (try dsimp only at hSw); go_simp; all_goals (with_reducible rfl))); (try simp only [Act.put, List.setIfInBounds_toArray, List.set_cons_zero, List.set_cons_succ]))
  (refine wpAnyE_take (i := 24) (v := ?_) rfl (by kernel_rfl) (by kernel_rfl) (by kernel_rfl) (by kernel_rfl) (fun _ _ _ h => h) (Or.inl ⟨by rfl, ?_⟩) HS ?_; rotate_left 1; (focus (intro w9 hSw; (try dsimp only at hSw); go_simp; all_goals (with_reducible rfl))); (try simp only [Act.put, List.setIfInBounds_toArray, List.set_cons_zero, List.set_cons_succ]))
  refine wpAnyE_one (i := 25) rfl (by kernel_rfl) ?_
  go_wp2_with fail
  have HS : (fun w' => w'.cell? ⟨s, 0, none⟩ = some (.slice (some ⟨g, 0, none⟩) 1 cc) ∧ w'.cell? ⟨g, 0, none⟩ = some (.int .u64 k) ∧ w'.cell? ⟨g, 1, none⟩ = some (.int .u64 t) ∧ w'.cell? ⟨g, 2, none⟩ = some (.int .i64 i)) ((((w.drew).setCell ⟨g, 0, none⟩ (.int .u64 k)).setCell ⟨g, 1, none⟩ (.int .u64 t)).setCell ⟨g, 2, none⟩ (.int .i64 i)) := ⟨by go_simp, by go_simp, by go_simp, by go_simp⟩
  first | refine ⟨fun _ => HS, ?_⟩ | skip
  refine wpAnyE_one (i := 26) rfl (by kernel_rfl) ?_
  go_wp2_with fail
  first | refine ⟨fun _ => HS, ?_⟩ | skip
  refine wpAnyE_one (i := 27) rfl (by kernel_rfl) ?_
  go_wp2_with fail
  have o1 := ((H.out.own.stored 0 (.int .u64 k)).1.stored 1 (.int .u64 t)).1.stored 2 (.int .i64 i)
  have o2 := ((o1.1.stored 0 (.int .u64 k)).1.stored 1 (.int .u64 t)).1.stored 2 (.int .i64 i)
  have x0 := o2.1.cells (g := g) rfl 0 _ rfl
  have x1 := o2.1.cells (g := g) rfl 1 _ rfl
  have x2 := o2.1.cells (g := g) rfl 2 _ rfl
  rw [Addr.add_lit] at x0 x1 x2
  simp only [Nat.zero_add, Nat.add_zero] at x0 x1 x2
  have hsg : s ≠ g := by omega
  have HS2 := Lib.hid o2.1
  clear o1 o2 HS
  have x9 : ((((((w.setCell ⟨g, 0, none⟩ (.int .u64 k)).setCell ⟨g, 1, none⟩ (.int .u64 t)).setCell ⟨g, 2, none⟩ (.int .i64 i)).setCell ⟨g, 0, none⟩ (.int .u64 k)).setCell ⟨g, 1, none⟩ (.int .u64 t)).setCell ⟨g, 2, none⟩ (.int .i64 i)).cell? ⟨s, 0, none⟩ = some (.slice (some ⟨g, 0, none⟩) 1 cc) := by go_simp
  have HC := Lib.hid ((((((Chg.refl (X := gP (some ⟨g, 0, none⟩)) (w := w)).set (p := ⟨g, 0, none⟩) (.inl rfl) (.int .u64 k)).set (p := ⟨g, 1, none⟩) (.inl rfl) (.int .u64 t)).set (p := ⟨g, 2, none⟩) (.inl rfl) (.int .i64 i)).set (p := ⟨g, 0, none⟩) (.inl rfl) (.int .u64 k)).set (p := ⟨g, 1, none⟩) (.inl rfl) (.int .u64 t) |>.set (p := ⟨g, 2, none⟩) (.inl rfl) (.int .i64 i))
  have hfz : ((((((w.setCell ⟨g, 0, none⟩ (.int .u64 k)).setCell ⟨g, 1, none⟩ (.int .u64 t)).setCell ⟨g, 2, none⟩ (.int .i64 i)).setCell ⟨g, 0, none⟩ (.int .u64 k)).setCell ⟨g, 1, none⟩ (.int .u64 t)).setCell ⟨g, 2, none⟩ (.int .i64 i)).frozen? ⟨s, 0, none⟩ = false := by go_simp
  generalize ((((((w.setCell ⟨g, 0, none⟩ (.int .u64 k)).setCell ⟨g, 1, none⟩ (.int .u64 t)).setCell ⟨g, 2, none⟩ (.int .i64 i)).setCell ⟨g, 0, none⟩ (.int .u64 k)).setCell ⟨g, 1, none⟩ (.int .u64 t)).setCell ⟨g, 2, none⟩ (.int .i64 i)) = V at x0 x1 x2 x9 HS2 HC hfz ⊢
  refine ⟨fun _ => ⟨x9, x0, x1, x2⟩, ?_⟩
  refine ⟨by kernel_rfl, ?_⟩
  refine bodyPost_end (v := .tuple #[]) (by first | rfl | kernel_rfl) rfl ?_
  refine ⟨rfl, ⟨x9, hfz, ?_⟩, ?_⟩
  · exact own_keep HS2.out (Below.drew (Below.refl _ _))
  · exact HC.out.trans (Chg.of (X := gP (some ⟨g, 0, none⟩)) (Below.drew (Below.refl _ _))) (fun k hk => .inl hk)
end Go.Proofs.YthlijfligikciaaGreat

/- A map whose keys are numbers and whose values are structs: what it holds, looked up, put. No condition beyond what the memory holds. -/
namespace Go.Proofs.YthlijfligikciaaGreat
open Go.RowKit Go.Maps
set_option linter.unusedSimpArgs false
set_option linter.unusedVariables false
set_option maxRecDepth 2000

theorem i_keyed : Keyed Tryz.prog 3 := int_keyed Tryz.underlying3
theorem ikey_mk {k : Int} (h : wf64 k) : keyOf Tryz.prog 3 (.int .i64 k) = some (.int .i64 k) := keyOf_int_mk Tryz.underlying3 (wf64_lit h)
/-- A map from numbers: of at most n entries, these. -/
def M1 (w : World) (b n : Nat) (S : Int → Option Value) : Prop :=
  ∃ D : DataW Value, w.ownsMap Tryz.prog 3 heldV b n D ∧ IsMap D ∧ ∀ k, wf64 k → has D (.int .i64 k) = (S k).isSome ∧ ∀ v, S k = some v → ∀ z, D.atKey (.int .i64 k) z = .held v
section
variable {w w' : World} {b n : Nat} {S : Int → Option Value}
theorem M1.lt (h : M1 w b n S) : b < w.heap.size := by
  obtain ⟨D, h, _⟩ := h
  exact h.lt
theorem M1.same (h : M1 w b n S) (e : w'.heap[b]? = w.heap[b]?) : M1 w' b n S := by
  obtain ⟨D, ⟨es, cl, h, r⟩, h2⟩ := h
  exact ⟨D, ⟨es, cl, e.trans h, r⟩, h2⟩
theorem m1_of (h : w.heap[b]? = some (.map #[] 0)) : M1 w b 0 (fun _ => none) := by
  obtain ⟨es, cl, h9, r⟩ := World.ownsMap_made w Tryz.prog 3 heldV
  rw [heap_alloc_new] at h9
  injection h9 with h9
  injection h9 with e1 e2
  subst e1 e2
  exact ⟨_, ⟨_, _, h, r⟩, isMap_empty, fun k _ => ⟨rfl, fun v h => by cases h⟩⟩
theorem m1_made (w : World) : M1 (w.alloc (.map #[] 0)) w.heap.size 0 (fun _ => none) := m1_of (heap_alloc_new _ _)
theorem M1.lookOk (h : M1 w b n S) {mt et : TypeId} {Z : Value} (hU : Tryz.prog.underlying mt = some (.map 3 et)) (hz : (zeroValue et).run Tryz.prog w = .ok Z w) {k : Int} (hk : wf64 k) : (Instr.lookup mt (.map (some b)) (.int .i64 k) true).run Tryz.prog w = .ok (.tuple #[(S k).getD Z, .bool (S k).isSome]) w := by
  obtain ⟨D, h, hm, hat⟩ := h
  obtain ⟨v, ps, hrun, hv⟩ := h.look_ok i_keyed hU hz (zd := .held Z) (zp := []) rfl (ikey_mk hk)
  obtain ⟨h1, h2⟩ := hat k hk
  rw [hrun, h1]
  cases hS : S k with
  | none =>
    rw [hS] at h1
    rw [atKey_of_not_has (by rw [h1]; rfl)] at hv
    rw [heldV_inv hv]
    rfl
  | some u =>
    rw [h2 u hS] at hv
    rw [heldV_inv hv]
    rfl
theorem M1.look (h : M1 w b n S) {mt et : TypeId} {Z : Value} (hU : Tryz.prog.underlying mt = some (.map 3 et)) (hz : (zeroValue et).run Tryz.prog w = .ok Z w) {k : Int} (hk : wf64 k) : (Instr.lookup mt (.map (some b)) (.int .i64 k) false).run Tryz.prog w = .ok ((S k).getD Z) w := by
  obtain ⟨D, h, hm, hat⟩ := h
  obtain ⟨v, ps, hrun, hv⟩ := h.lookup i_keyed hU hz (zd := .held Z) (zp := []) rfl (ikey_mk hk)
  obtain ⟨h1, h2⟩ := hat k hk
  rw [hrun]
  cases hS : S k with
  | none =>
    rw [hS] at h1
    rw [atKey_of_not_has (by rw [h1]; rfl)] at hv
    rw [heldV_inv hv]
    rfl
  | some u =>
    rw [h2 u hS] at hv
    rw [heldV_inv hv]
    rfl
theorem M1.put (h : M1 w b n S) (hn : n < 9223372036854775807) {mt et : TypeId} (hU : Tryz.prog.underlying mt = some (.map 3 et)) {k : Int} (hk : wf64 k) (v : Value) :
    ∃ w', (Instr.mapUpdate mt (.map (some b)) (.int .i64 k) v).run Tryz.prog w = .ok () w' ∧ M1 w' b (n + 1) (fun x => if x = k then some v else S x) ∧ w.grownBy w' (some b) := by
  obtain ⟨D, h, hm, hat⟩ := h
  obtain ⟨w', hrun, h1, h2⟩ := h.update i_keyed hU (by unfold maxLen; omega) (ikey_mk hk) (val := v) (d := .held v) (ps := []) rfl
  refine ⟨w', hrun, ⟨_, h1, hm.put _ _, fun x hx => ?_⟩, h2⟩
  by_cases e : x = k
  · subst e
    simp only [if_true]
    refine ⟨has_put_same hm (i_keyed.key (ikey_mk hk)) _, fun u hu zd => ?_⟩
    injection hu with hu
    subst hu
    exact atKey_put_same hm (i_keyed.key (ikey_mk hk)) _ _
  · have hne : (.int .i64 x : Lit) ≠ .int .i64 k := fun he => e (by injection he)
    simp only [e, if_false]
    obtain ⟨h3, h4⟩ := hat x hx
    exact ⟨(has_put_other hne _).trans h3, fun u hu zd => by rw [atKey_put_other hne]; exact h4 u hu zd⟩
end
end Go.Proofs.YthlijfligikciaaGreat
