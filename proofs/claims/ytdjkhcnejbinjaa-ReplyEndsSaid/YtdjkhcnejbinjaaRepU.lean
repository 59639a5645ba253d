/- Bytes are read as an answer, walked whole. No condition beyond what the slice reads as. -/
import Derived.Test.YtdjkhcnejbinjaaRepT
import Derived.Test.YtdjkhcnejbinjaaRepH
import Derived.Deep.CutRange
import Derived.Laws.BytesArg
namespace Go.Proofs.Ytdjkhcnejbinjaa
open Go.RowKit
set_option linter.unusedSimpArgs false
set_option linter.unusedVariables false
set_option maxRecDepth 2000

/-- Items in blocks from a number on. -/
def FarItems (w : World) (lo B : Nat) (A : Option Addr) (n size : Nat) (f : Nat → Nat → Int) : Prop := 0 < n → ∃ b o, A = some ⟨b, o, none⟩ ∧ lo ≤ b ∧ b < B ∧ ∀ i, i < n → ∀ j, j < size → w.cell? ⟨b, o + i * size + j, none⟩ = some (.int .i64 (f i j))
theorem FarItems.near {w : World} {lo B n size : Nat} {A : Option Addr} {f : Nat → Nat → Int} (h : FarItems w lo B A n size f) : IsItems w B A n size f := fun hn => by
  obtain ⟨b, o, h1, _, h2, h3⟩ := h hn
  exact ⟨b, o, h1, h2, h3⟩
theorem FarItems.low {w : World} {lo lo' B n size : Nat} {A : Option Addr} {f : Nat → Nat → Int} (h : FarItems w lo B A n size f) (hl : lo' ≤ lo) : FarItems w lo' B A n size f := fun hn => by
  obtain ⟨b, o, h1, h9, h2, h3⟩ := h hn
  exact ⟨b, o, h1, by omega, h2, h3⟩
theorem FarItems.keep {w w' : World} {lo B n size : Nat} {A : Option Addr} {f : Nat → Nat → Int} (h : FarItems w lo B A n size f) (hb : Below B w w') (hB : B ≤ w'.heap.size) : FarItems w' lo w'.heap.size A n size f := fun hn => by
  obtain ⟨b, o, h1, h9, h2, h3⟩ := h hn
  exact ⟨b, o, h1, h9, by omega, fun i hi j hj => (hb.cell (p := ⟨b, o + i * size + j, none⟩) h2).trans (h3 i hi j hj)⟩
theorem FarItems.set {w : World} {lo n size : Nat} {A : Option Addr} {f : Nat → Nat → Int} {p : Addr} (h : FarItems w lo w.heap.size A n size f) (hp : p.block < lo) (u : Value) : FarItems (w.setCell p u) lo (w.setCell p u).heap.size A n size f := fun hn => by
  obtain ⟨b, o, h1, h9, h2, h3⟩ := h hn
  refine ⟨b, o, h1, h9, by rw [World.size_setCell]; exact h2, fun i hi j hj => ?_⟩
  rw [World.cell?_setCell_other _ _ _ _ (fun e => by subst e; simp at hp; omega)]
  exact h3 i hi j hj
theorem far_own {w : World} {base size n c : Nat} {t : TypeId} {A : Option Addr} {f : Nat → Nat → Int} (h : w.ownsRow base t size (.slice A n c) n (rowsV f size n)) : FarItems w base w.heap.size A n size f := fun hn => by
  obtain ⟨g, cap, hv, hg, hlt⟩ := h.form hn
  have hA : A = some ⟨g, 0, none⟩ := by injection hv
  subst hA
  refine ⟨g, 0, rfl, hg, hlt, fun i hi j hj => ?_⟩
  have := h.cells (g := g) rfl (i * size + j) _ (rowsV_get hi hj)
  rwa [Addr.add_lit, ← Nat.add_assoc] at this
theorem far_nil (w : World) (lo B : Nat) (A : Option Addr) (size : Nat) (f : Nat → Nat → Int) : FarItems w lo B A 0 size f := fun h => absurd h (by omega)
/-- The bytes are an answer's, read so far: at block p. -/
def DecMid (op m : Int) (L : List Nat) (lo p : Nat) (w : World) : Prop :=
  ∃ A1 c1 A2 c2, CellsAt w p 12 (ansC (numR L 0 1) (rdN op m L (op = 4 ∨ op = 5) 3 8) (rdN op m L (op = 12) 3 2) (rdN op m L (op = 12) 5 2) (rdN op m L (op = 12) 7 1) (rdN op m L (op = 10) 3 2) (rdN op m L (op = 10) 5 2) (rdN op m L (op = 10) 7 2) (rdN op m L (op = 10) 9 2) (.slice A1 (rdNs op m L) c1) (.slice A2 (rdNe op m L) c2))
    ∧ FarItems w lo w.heap.size A1 (rdNs op m L) 6 (rdF L 3) ∧ FarItems w lo w.heap.size A2 (rdNe op m L) 4 (rdG L 3)
def fitsD (op m : Int) (L : List Nat) : Prop :=
  fitsA op m (numR L 0 1) (rdN op m L (op = 4 ∨ op = 5) 3 8) 0 (rdN op m L (op = 12) 3 2) (rdN op m L (op = 12) 5 2) (rdN op m L (op = 12) 7 1) (rdN op m L (op = 10) 3 2) (rdN op m L (op = 10) 5 2) (rdN op m L (op = 10) 7 2) (rdN op m L (op = 10) 9 2) (rdNs op m L) (rdNe op m L) (rdF L 3) (rdG L 3)
def encD (op m : Int) (L : List Nat) : List Nat :=
  encL op (numR L 0 1) (rdN op m L (op = 4 ∨ op = 5) 3 8) (rdN op m L (op = 12) 3 2) (rdN op m L (op = 12) 5 2) (rdN op m L (op = 12) 7 1) (rdN op m L (op = 10) 3 2) (rdN op m L (op = 10) 5 2) (rdN op m L (op = 10) 7 2) (rdN op m L (op = 10) 9 2) (rdNs op m L) (rdNe op m L) (rdF L 3) (rdG L 3)
theorem rdN_on {op m : Int} {L : List Nat} (h : rdOn op m L) (c : Prop) [Decidable c] (off wide : Nat) : rdN op m L c off wide = if c then numR L off wide else 0 := by
  unfold rdN
  by_cases hc : c
  · rw [if_pos ⟨h, hc⟩, if_pos hc]
  · rw [if_neg (fun h => hc h.2), if_neg hc]
theorem items_nil (w : World) (B : Nat) (A : Option Addr) (size : Nat) (f : Nat → Nat → Int) : IsItems w B A 0 size f := fun h => absurd h (by omega)
instance (op m : Int) (L : List Nat) : Decidable (fitsD op m L) := by unfold fitsD; infer_instance
theorem wsL_small (ns : List Int) (wide : Nat) : Small (wsL ns wide) := fun x hx => by
  obtain ⟨n, _, hn⟩ := List.mem_flatMap.1 hx
  exact wL_small n wide x hn
theorem manyL_small {F : Nat → List Nat} (h : ∀ i, Small (F i)) (n : Nat) : Small (manyL F n) := fun x hx => by
  obtain ⟨i, _, hi⟩ := List.mem_flatMap.1 hx
  exact h i x hi
theorem small_nil : Small [] := fun x hx => by cases hx
theorem encL_small (op s k x y lab b0 b1 b2 b3 : Int) (ns ne : Nat) (f g : Nat → Nat → Int) : Small (encL op s k x y lab b0 b1 b2 b3 ns ne f g) := by
  unfold encL
  refine (wsL_small _ _).app ?_
  split
  · refine Small.app ?_ ((manyL_small (fun i => ?_) _).app (manyL_small (fun i => ?_) _))
    · unfold onceL
      split
      · exact wL_small _ _
      · split
        · exact (wsL_small _ _).app (wsL_small _ _)
        · split
          · exact wsL_small _ _
          · exact small_nil
    · exact (wsL_small _ _).app ((wsL_small _ _).app (wsL_small _ _))
    · exact (wsL_small _ _).app ((wsL_small _ _).app (wsL_small _ _))
  · exact small_nil
theorem padL_small {l : List Nat} (h : Small l) (n : Nat) : Small (padL l n) := h.app fun x hx => by
  have := (List.mem_replicate.1 hx).2
  omega
/-- Bytes as a string. -/
def strL (l : List Nat) : ByteArray := strOfNums (l.map fun x : Nat => (x : Int))
theorem strL_list (l : List Nat) : (strL l).toList = l.map UInt8.ofNat := by
  rw [ByteArray.toList_eq, strL, strOfNums_data, List.map_map]
  exact List.map_congr_left fun x _ => rfl
theorem strL_inj {a b : List Nat} (ha : Small a) (hb : Small b) (h : (strL a).toList = (strL b).toList) : a = b := by
  rw [strL_list, strL_list] at h
  have h2 := congrArg (List.map UInt8.toNat) h
  rw [List.map_map, List.map_map] at h2
  have e : ∀ l : List Nat, Small l → l.map (UInt8.toNat ∘ UInt8.ofNat) = l := fun l hl => by
    conv => rhs; rw [← List.map_id l]
    exact List.map_congr_left fun x hx => by
      have := hl x hx
      simp
      omega
  rwa [e a ha, e b hb] at h2
theorem conv_at {w : World} {b o n c : Nat} {R : List Nat} (hl : R.length = n) (hc : ∀ j, j < n → w.cell? ⟨b, o + j, none⟩ = some (.int .u8 (atI R j))) : (convert 24 9 (.slice (some ⟨b, o, none⟩) n c)).run Try.prog w = .ok (.string (strL R)) w :=
  run_convert_bytes_arg (P := Try.prog) w 24 5 Try.underlying24 Try.underlying5 b o n c (R.map fun x : Nat => (x : Int)) (by simp [hl]) (fun i hi => by
    rw [hc i hi]
    simp only [atI, List.getD, List.getElem?_map]
    cases R[i]? <;> rfl) 9 Try.underlying9
theorem CellsAt.ans {w : World} {p : Nat} {s k x y lab b0 b1 b2 b3 : Int} {S E : Value} (h : CellsAt w p 12 (ansC s k x y lab b0 b1 b2 b3 S E)) : w.cell? ⟨p, 0, none⟩ = some (.int .i64 s) ∧ w.cell? ⟨p, 1, none⟩ = some (.int .u64 k) ∧ w.cell? ⟨p, 2, none⟩ = some (.int .i64 0) ∧ w.cell? ⟨p, 3, none⟩ = some (.int .i64 x) ∧ w.cell? ⟨p, 4, none⟩ = some (.int .i64 y) ∧ w.cell? ⟨p, 5, none⟩ = some (.int .i64 lab) ∧ w.cell? ⟨p, 6, none⟩ = some (.int .i64 b0) ∧ w.cell? ⟨p, 7, none⟩ = some (.int .i64 b1) ∧ w.cell? ⟨p, 8, none⟩ = some (.int .i64 b2) ∧ w.cell? ⟨p, 9, none⟩ = some (.int .i64 b3) ∧ w.cell? ⟨p, 10, none⟩ = some (S) ∧ w.cell? ⟨p, 11, none⟩ = some (E) := h.twelve.1
set_option maxHeartbeats 8000000 in
theorem decode_op (op m : Int) (B : Value) (w : World) (h : ¬ (1 ≤ op ∧ op ≤ 19)) :
    Calls Try.prog 18 #[.int .i64 op, .int .i64 m, B] w fun e w' => e = .returned (.tuple #[.agg #[.int .i64 0, .int .u64 0, .int .i64 0, .int .i64 0, .int .i64 0, .int .i64 0, .int .i64 0, .int .i64 0, .int .i64 0, .int .i64 0, .slice none 0 0, .slice none 0 0], .int .i64 51]) ∧ Below w.heap.size w w' := by
  have hc : op < 1 ∨ (¬ op < 1 ∧ 19 < op) := by omega
  rcases hc with hc | ⟨hc, hc2⟩
  all_goals
    go_enter Try.func18, Try.ntmps18
    go_wp2
    refine bodyPost_ret (v := .tuple #[.agg #[.int .i64 0, .int .u64 0, .int .i64 0, .int .i64 0, .int .i64 0, .int .i64 0, .int .i64 0, .int .i64 0, .int .i64 0, .int .i64 0, .slice none 0 0, .slice none 0 0], .int .i64 51]) (by simp only [results, Try.results18]; go_simp; all_goals (first | rfl | simp [sel])) rfl ⟨rfl, ?_⟩
    repeat' (first | (with_reducible exact Below.refl _ _) | (with_reducible assumption) | (with_reducible refine Later.step ?_ ?_ _) | (with_reducible refine Below.alloc ?_ ?_ _) | (with_reducible refine Below.drew ?_) | (with_reducible refine bel_drewN ?_ _) | (with_reducible refine bel_grown ?_ (by assumption) ?_ ?_) | (with_reducible refine Below.setCell ?_ ?_ _) | go_size)
set_option maxHeartbeats 8000000 in
theorem decode_arg (op m : Int) (B : Value) (w : World) (h : 1 ≤ op ∧ op ≤ 19) (hm : ¬ (0 ≤ m ∧ m ≤ 64)) :
    Calls Try.prog 18 #[.int .i64 op, .int .i64 m, B] w fun e w' => e = .returned (.tuple #[.agg #[.int .i64 0, .int .u64 0, .int .i64 0, .int .i64 0, .int .i64 0, .int .i64 0, .int .i64 0, .int .i64 0, .int .i64 0, .int .i64 0, .slice none 0 0, .slice none 0 0], .int .i64 1]) ∧ Below w.heap.size w w' := by
  have P1 := Lib.hid (fun Y : World => there_any op m Y)
  have ht : thereB op m = false := decide_eq_false (fun h => hm h.2.2)
  rw [ht] at P1
  have hc1 : ¬ op < 1 := by omega
  have hc2 : ¬ 19 < op := by omega
  clear ht hm h
  go_enter Try.func18, Try.ntmps18
  go_wp2_with (first
    | (go_at_call 22; with_reducible refine (P1.out _).mono ?_; rintro e w' ⟨rfl, hb⟩; obtain ⟨X1, rfl, hl1, hm1⟩ := later (w.heap.size + 1) hb (by first | exact Nat.le_refl _ | go_size); clear hb; (try simp only [World.size_alloc, World.size_setCell, World.size_drew] at hm1)))
  refine bodyPost_ret (v := .tuple #[.agg #[.int .i64 0, .int .u64 0, .int .i64 0, .int .i64 0, .int .i64 0, .int .i64 0, .int .i64 0, .int .i64 0, .int .i64 0, .int .i64 0, .slice none 0 0, .slice none 0 0], .int .i64 1]) (by simp only [results, Try.results18]; go_simp; all_goals (first | rfl | simp [sel])) rfl ⟨rfl, ?_⟩
  repeat' (first | (with_reducible exact Below.refl _ _) | (with_reducible assumption) | (with_reducible refine Later.step ?_ ?_ _) | (with_reducible refine Below.alloc ?_ ?_ _) | (with_reducible refine Below.drew ?_) | (with_reducible refine bel_drewN ?_ _) | (with_reducible refine bel_grown ?_ (by assumption) ?_ ?_) | (with_reducible refine Below.setCell ?_ ?_ _) | go_size)
set_option maxHeartbeats 8000000 in
theorem decode_short (op m : Int) (A : Option Addr) (n c : Nat) (w : World) (h : thereB op m = true) (hl : ¬ (n : Int) = lengthI op m) :
    Calls Try.prog 18 #[.int .i64 op, .int .i64 m, .slice A n c] w fun e w' => e = .returned (.tuple #[.agg #[.int .i64 0, .int .u64 0, .int .i64 0, .int .i64 0, .int .i64 0, .int .i64 0, .int .i64 0, .int .i64 0, .int .i64 0, .int .i64 0, .slice none 0 0, .slice none 0 0], .int .i64 50]) ∧ Below w.heap.size w w' := by
  have P1 := Lib.hid (fun Y : World => there_any op m Y)
  rw [h] at P1
  have P2 := Lib.hid (rlength_any op m)
  have ht : 1 ≤ op ∧ op ≤ 19 ∧ 0 ≤ m ∧ m ≤ 64 := by simp [thereB] at h; omega
  generalize lengthI op m = l at *
  have hd : ((n : Int) != l) = true := by simpa using hl
  have hc1 : ¬ op < 1 := by omega
  have hc2 : ¬ 19 < op := by omega
  clear ht h hl
  go_enter Try.func18, Try.ntmps18
  go_wp2_with (first
    | (go_at_call 22; with_reducible refine (P1.out _).mono ?_; rintro e w' ⟨rfl, hb⟩; obtain ⟨X1, rfl, hl1, hm1⟩ := later (w.heap.size + 1) hb (by first | exact Nat.le_refl _ | go_size); clear hb; (try simp only [World.size_alloc, World.size_setCell, World.size_drew] at hm1))
    | (go_at_call 9; refine (P2.out _).mono ?_; rintro e w' ⟨rfl, hb⟩; obtain ⟨X2, rfl, hl2, hm2⟩ := later (X1.w.heap.size) hb (by first | exact Nat.le_refl _ | go_size); clear hb; (try simp only [World.size_alloc, World.size_setCell, World.size_drew] at hm2)))
  refine bodyPost_ret (v := .tuple #[.agg #[.int .i64 0, .int .u64 0, .int .i64 0, .int .i64 0, .int .i64 0, .int .i64 0, .int .i64 0, .int .i64 0, .int .i64 0, .int .i64 0, .slice none 0 0, .slice none 0 0], .int .i64 50]) (by simp only [results, Try.results18]; go_simp; all_goals (first | rfl | simp [sel])) rfl ⟨rfl, ?_⟩
  repeat' (first | (with_reducible exact Below.refl _ _) | (with_reducible assumption) | (with_reducible refine Later.step ?_ ?_ _) | (with_reducible refine Below.alloc ?_ ?_ _) | (with_reducible refine Below.drew ?_) | (with_reducible refine bel_drewN ?_ _) | (with_reducible refine bel_grown ?_ (by assumption) ?_ ?_) | (with_reducible refine Below.setCell ?_ ?_ _) | go_size)
/-- What Decode answers, of as many bytes as it wants. -/
def DecPost (op m : Int) (L : List Nat) (w : World) (e : Ending) (w' : World) : Prop :=
  (if fitsD op m L ∧ padL (encD op m L) L.length = L then
    ∃ A1 c1 A2 c2, e = .returned (.tuple #[.agg #[.int .i64 (numR L 0 1), .int .u64 (rdN op m L (op = 4 ∨ op = 5) 3 8), .int .i64 0, .int .i64 (rdN op m L (op = 12) 3 2), .int .i64 (rdN op m L (op = 12) 5 2), .int .i64 (rdN op m L (op = 12) 7 1), .int .i64 (rdN op m L (op = 10) 3 2), .int .i64 (rdN op m L (op = 10) 5 2), .int .i64 (rdN op m L (op = 10) 7 2), .int .i64 (rdN op m L (op = 10) 9 2), .slice A1 (rdNs op m L) c1, .slice A2 (rdNe op m L) c2], .int .i64 0])
      ∧ IsItems w' w'.heap.size A1 (rdNs op m L) 6 (rdF L 3) ∧ IsItems w' w'.heap.size A2 (rdNe op m L) 4 (rdG L 3)
  else e = .returned (.tuple #[.agg #[.int .i64 0, .int .u64 0, .int .i64 0, .int .i64 0, .int .i64 0, .int .i64 0, .int .i64 0, .int .i64 0, .int .i64 0, .int .i64 0, .slice none 0 0, .slice none 0 0], .int .i64 33])) ∧ Below w.heap.size w w'
set_option maxHeartbeats 16000000 in
theorem decode_any (op m : Int) (A : Option Addr) (c : Nat) (L : List Nat) (w : World) (h : thereB op m = true) (hr : Reads .u8 w w.heap.size A L.length (atI L)) (hs : Small L) (hl : (L.length : Int) = lengthI op m) (hc0 : L.length ≤ c) (hc9 : c ≤ 9223372036854775807) :
    Calls Try.prog 18 #[.int .i64 op, .int .i64 m, .slice A L.length c] w (DecPost op m L w) := by
  have P1 := Lib.hid (fun Y : World => there_any op m Y)
  rw [h] at P1
  have P2 := Lib.hid (rlength_any op m)
  have P3 := Lib.hid (reach_any op)
  have hlb := length_bd op m
  have ht : 1 ≤ op ∧ op ≤ 19 ∧ 0 ≤ m ∧ m ≤ 64 := by simp [thereB] at h; omega
  have hL : lengthI op m = 3 + onceI op + m * eachI op := by unfold lengthI; rw [if_pos h]
  have HL := Lib.hid hL
  have HLL := Lib.hid hl
  rw [← hl] at P2
  have hl3 : 3 ≤ L.length ∧ L.length ≤ 1000 := by omega
  obtain ⟨n, hn⟩ : ∃ n, L.length = n := ⟨_, rfl⟩
  rw [hn] at P2 hl3 hc0 ⊢
  have HN := Lib.hid hn
  have HR := Lib.hid hr
  have HS := Lib.hid hs
  have hcnt := numR_bd hs 2 1
  have N0 := Lib.hid (fun (Y : World) (q : Nat) (hY : Rd Y q L 0) => rnumber_any q 0 1 L Y hY HS.out (by decide) (by decide) (by rw [HN.out]; omega))
  have N1 := Lib.hid (fun (Y : World) (q : Nat) (hY : Rd Y q L 1) => rnumber_any q 1 1 L Y hY HS.out (by decide) (by decide) (by rw [HN.out]; omega))
  have N2 := Lib.hid (fun (Y : World) (q : Nat) (hY : Rd Y q L 2) => rnumber_any q 2 1 L Y hY HS.out (by decide) (by decide) (by rw [HN.out]; omega))
  obtain ⟨s, hs0⟩ : ∃ s, numR L 0 1 = s := ⟨_, rfl⟩
  obtain ⟨cnt, hs2⟩ : ∃ s, numR L 2 1 = ((s : Nat) : Int) := ⟨(numR L 2 1).toNat, by omega⟩
  rw [hs0] at N0
  rw [hs2] at N2 hcnt
  have H0 := Lib.hid hs0
  have H2 := Lib.hid hs2
  have hc1 : ¬ op < 1 := by omega
  have hc2 : ¬ 19 < op := by omega
  have hc255 : cnt ≤ 255 := by have := hcnt.2; simp at this; omega
  have HT := Lib.hid ht
  obtain ⟨t, hto⟩ : ∃ t, decide (rdOn op m L) = t := ⟨_, rfl⟩
  have hton : t = true ↔ (s = 0 ∧ (cnt : Int) ≤ m ∧ ((cnt : Int) = 0 ∨ 0 < eachI op)) := by
    rw [← hto, decide_eq_true_eq]
    unfold rdOn
    rw [hs0, hs2]
  have HTO := Lib.hid hto
  have HTN := Lib.hid hton
  clear h hl hL hlb ht hn hr hs hs0 hs2 hcnt hto hton
  go_enter Try.func18, Try.ntmps18
  go_wp2_with (first
    | (go_at_call 22; with_reducible refine (P1.out _).mono ?_; rintro e w' ⟨rfl, hb⟩; obtain ⟨X1, rfl, hl1, hm1⟩ := later (w.heap.size + 1) hb (by first | exact Nat.le_refl _ | go_size); clear hb; (try simp only [World.size_alloc, World.size_setCell, World.size_drew] at hm1))
    | (go_at_call 9; refine (P2.out _).mono ?_; rintro e w' ⟨rfl, hb⟩; obtain ⟨X2, rfl, hl2, hm2⟩ := later (X1.w.heap.size) hb (by first | exact Nat.le_refl _ | go_size); clear hb; (try simp only [World.size_alloc, World.size_setCell, World.size_drew] at hm2)))
  have hR0 : Rd (X2.w.alloc (Obj.cells #[.slice A n c] 70)) X2.w.heap.size L 0 := ⟨by go_size, by omega, ⟨A, c, by rw [HN.out]; go_simp, by rw [HN.out]; omega, hc9, by
    have h9 := HR.out
    rw [Nat.sub_zero]
    simp only [Nat.zero_add]
    exact (h9.keep (by repeat' (first | (with_reducible exact Below.refl _ _) | (with_reducible assumption) | (with_reducible refine Later.step ?_ ?_ _) | (with_reducible refine Below.alloc ?_ ?_ _) | (with_reducible refine Below.drew ?_) | (with_reducible refine bel_drewN ?_ _) | (with_reducible refine bel_grown ?_ (by assumption) ?_ ?_) | (with_reducible refine Below.setCell ?_ ?_ _) | go_size))).more (by go_size)⟩, by go_simp⟩
  have HR0 := Lib.hid hR0
  clear hR0
  refine (N0.out _ _ HR0.out).mono ?_
  rintro e w3 ⟨rfl, hpo⟩
  have hs3 := hpo.2.size
  rw [World.size_alloc] at hs3
  have HR1 := Lib.hid hpo.1
  have hb3 : Below X2.w.heap.size X2.w w3 := Below.trans (b := X2.w.alloc (Obj.cells #[.slice A n c] 70)) ((Below.refl _ _).alloc (Nat.le_refl _) _) (hpo.below (by go_size))
  obtain ⟨Y1, rfl⟩ : ∃ Z : Later X2.w.heap.size X2.w, w3 = Z.w := ⟨⟨w3, hb3⟩, rfl⟩
  clear hpo hb3
  go_wp2_with fail
  have hE : CellsAt (Y1.w.alloc (Obj.cells #[.int .i64 s, .int .u64 0, .int .i64 0, .int .i64 0, .int .i64 0, .int .i64 0, .int .i64 0, .int .i64 0, .int .i64 0, .int .i64 0, .slice none 0 0, .slice none 0 0] 38)) Y1.w.heap.size 12 (ansC s 0 0 0 0 0 0 0 0 (.slice none 0 0) (.slice none 0 0)) := CellsAt.new fun j hj => by
    rcases ans_at hj with rfl | rfl | rfl | rfl | rfl | rfl | rfl | rfl | rfl | rfl | rfl | rfl <;> rfl
  refine (N1.out _ _ (HR1.out.keep (by repeat' (first | (with_reducible exact Below.refl _ _) | (with_reducible assumption) | (with_reducible refine Later.step ?_ ?_ _) | (with_reducible refine Below.alloc ?_ ?_ _) | (with_reducible refine Below.drew ?_) | (with_reducible refine bel_drewN ?_ _) | (with_reducible refine bel_grown ?_ (by assumption) ?_ ?_) | (with_reducible refine Below.setCell ?_ ?_ _) | go_size)))).mono ?_
  rintro e w4 ⟨rfl, hpo⟩
  have hs4 := hpo.2.size
  rw [World.size_alloc] at hs4
  have HR2 := Lib.hid hpo.1
  have HE2 := Lib.hid (hE.grown hpo.2 (by omega))
  have hb4 : Below X2.w.heap.size X2.w w4 := Below.trans (b := Y1.w.alloc (Obj.cells #[.int .i64 s, .int .u64 0, .int .i64 0, .int .i64 0, .int .i64 0, .int .i64 0, .int .i64 0, .int .i64 0, .int .i64 0, .int .i64 0, .slice none 0 0, .slice none 0 0] 38)) (Below.alloc Y1.is (by omega) _) (hpo.below (by go_size))
  obtain ⟨Y2, rfl⟩ : ∃ Z : Later X2.w.heap.size X2.w, w4 = Z.w := ⟨⟨w4, hb4⟩, rfl⟩
  clear hpo hb4 hE
  go_wp2_with fail
  refine (N2.out _ _ HR2.out).mono ?_
  rintro e w5 ⟨rfl, hpo⟩
  have hs5 := hpo.2.size
  have HR3 := Lib.hid hpo.1
  have HE3 := Lib.hid (HE2.out.grown hpo.2 (by omega))
  have hb5 : Below X2.w.heap.size X2.w w5 := Below.trans (b := Y2.w) Y2.is (hpo.below (by omega))
  obtain ⟨Y3, rfl⟩ : ∃ Z : Later X2.w.heap.size X2.w, w5 = Z.w := ⟨⟨w5, hb5⟩, rfl⟩
  have d0 : Y3.w.cell? ⟨Y1.w.heap.size, 0, none⟩ = some (.int .i64 s) := (HE3.out.2 0 (by decide)).1
  clear hpo hb5
  go_upto_region 11 with fail
  go_cut [61] from 45 to 61 (fun u wx => u = .bool t ∧ Below Y3.w.heap.size Y3.w wx)
  case first =>
    have hcs : (s = 0 ∧ (cnt : Int) ≤ m ∧ cnt = 0 ∧ t = true) ∨ (s = 0 ∧ (cnt : Int) ≤ m ∧ ¬ cnt = 0 ∧ 0 < eachI op ∧ t = true) ∨ (s = 0 ∧ (cnt : Int) ≤ m ∧ ¬ cnt = 0 ∧ ¬ 0 < eachI op ∧ t = false) ∨ (s = 0 ∧ ¬ (cnt : Int) ≤ m ∧ t = false) ∨ (¬ s = 0 ∧ t = false) := by
      have h9 := HTN.out
      by_cases g1 : s = 0
      · by_cases g2 : (cnt : Int) ≤ m
        · by_cases g3 : cnt = 0
          · exact .inl ⟨g1, g2, g3, h9.2 ⟨g1, g2, .inl (by omega)⟩⟩
          · by_cases g4 : 0 < eachI op
            · exact .inr (.inl ⟨g1, g2, g3, g4, h9.2 ⟨g1, g2, .inr g4⟩⟩)
            · exact .inr (.inr (.inl ⟨g1, g2, g3, g4, by cases t with | false => rfl | true => have := (h9.1 rfl).2.2; omega⟩))
        · exact .inr (.inr (.inr (.inl ⟨g1, g2, by cases t with | false => rfl | true => exact absurd (h9.1 rfl).2.1 g2⟩)))
      · exact .inr (.inr (.inr (.inr ⟨g1, by cases t with | false => rfl | true => exact absurd (h9.1 rfl).1 g1⟩)))
    clear HTN HTO
    generalize eachI op = eo at *
    rcases hcs with ⟨rfl, g2, rfl, rfl⟩ | ⟨rfl, g2, g3, g4, rfl⟩ | ⟨rfl, g2, g3, g4, rfl⟩ | ⟨rfl, g2, rfl⟩ | ⟨g1, rfl⟩
    all_goals
      go_wp2_with (first
        | (go_at_call 24; refine (P3.out _).mono ?_; rintro e w' ⟨rfl, hb⟩; obtain ⟨X6, rfl, hl6, hm6⟩ := later (Y3.w.heap.size) hb (by first | exact Nat.le_refl _ | go_size); clear hb; (try simp only [World.size_alloc, World.size_setCell, World.size_drew] at hm6)))
      go_meet
      exact ⟨by first | rfl | (simp; omega), by repeat' (first | (with_reducible exact Below.refl _ _) | (with_reducible assumption) | (with_reducible refine Later.step ?_ ?_ _) | (with_reducible refine Below.alloc ?_ ?_ _) | (with_reducible refine Below.drew ?_) | (with_reducible refine bel_drewN ?_ _) | (with_reducible refine bel_grown ?_ (by assumption) ?_ ?_) | (with_reducible refine Below.setCell ?_ ?_ _) | go_size)⟩
  case rest =>
    obtain ⟨rfl, hb⟩ := hcut
    obtain ⟨Z, rfl⟩ : ∃ Z : Later Y3.w.heap.size Y3.w, wc = Z.w := ⟨⟨wc, hb⟩, rfl⟩
    have hsz := hb.size
    have HRZ := Lib.hid (HR3.out.keep hb)
    have HEZ := Lib.hid (HE3.out.keep hb)
    clear hb d0
    go_upto_if 61 with fail
    go_cut [] from 62 to 68 (fun wx => Hid (DecMid op m L X2.w.heap.size Y1.w.heap.size wx) ∧ Below X2.w.heap.size X2.w wx ∧ Y1.w.heap.size < wx.heap.size)
    case first =>
      have hton := HTN.out
      have hto := HTO.out
      cases t with
      | false =>
        have hno : ¬ rdOn op m L := of_decide_eq_false hto
        clear hton hto
        have HNO := Lib.hid hno
        clear hno
        go_wp2
        go_meet
        refine ⟨⟨none, 0, none, 0, ?_, ?_, ?_⟩, by repeat' (first | (with_reducible exact Below.refl _ _) | (with_reducible assumption) | (with_reducible refine Later.step ?_ ?_ _) | (with_reducible refine Below.alloc ?_ ?_ _) | (with_reducible refine Below.drew ?_) | (with_reducible refine bel_drewN ?_ _) | (with_reducible refine bel_grown ?_ (by assumption) ?_ ?_) | (with_reducible refine Below.setCell ?_ ?_ _) | go_size), by omega⟩
        · unfold rdN rdNs rdNe
          simp only [HNO.out, false_and, if_false]
          rw [H0.out]
          exact HEZ.out
        · unfold rdNs
          rw [if_neg (fun h => HNO.out h.1)]
          exact fun h => absurd h (by omega)
        · unfold rdNe
          rw [if_neg (fun h => HNO.out h.1)]
          exact fun h => absurd h (by omega)
      | true =>
        have hon : rdOn op m L := of_decide_eq_true hto
        obtain ⟨rfl, hcm, hce⟩ := hton.1 rfl
        have hlen := HLL.out
        rw [HL.out] at hlen
        have htt := HT.out
        have hqp : X2.w.heap.size < Y1.w.heap.size := by omega
        have hfit : (3 : Int) + onceI op ≤ L.length ∧ 3 + (onceI op).toNat + cnt * (eachI op).toNat ≤ L.length ∧ (0 < cnt → 3 + (onceI op).toNat = 3) ∧ cnt ≤ 64 := by
          have hec := each_cases op
          have hoc := once_bd op
          have heo : 0 < cnt → 0 < eachI op := fun h => by omega
          have heo2 : 0 < cnt → onceI op = 0 := fun h => each_once (heo h)
          rcases hec with e | e | e
          all_goals
            rw [e] at hlen heo ⊢
            refine ⟨by omega, ?_, fun h => by have := heo2 h; omega, by omega⟩
            first
              | omega
              | (simp; omega)
              | (obtain rfl : cnt = 0 := by omega
                 simp; omega)
        obtain ⟨hf1, hf2, hf3, hf4⟩ := hfit
        have PO := Lib.hid (xonce_any X2.w.heap.size Y1.w.heap.size 3 op L Z.w (.slice none 0 0) (.slice none 0 0) HRZ.out HS.out hqp HEZ.out (by omega))
        have HON := Lib.hid hon
        have HCE := Lib.hid hce
        have HF2 := Lib.hid hf2
        have HF3 := Lib.hid hf3
        clear hton hto hon hlen hf1 hf2 hf3 hce htt
        go_wp2_with fail
        refine PO.out.mono ?_
        intro e w6 hpo
        unfold OncePost at hpo
        obtain ⟨rfl, hR6, hC6, hT6⟩ := hpo
        have hs6 := hT6.size
        have HR6 := Lib.hid hR6
        have HC6 := Lib.hid hC6
        have hb6 : Below X2.w.heap.size X2.w w6 := Below.trans (b := Z.w) (by repeat' (first | (with_reducible exact Below.refl _ _) | (with_reducible assumption) | (with_reducible refine Later.step ?_ ?_ _) | (with_reducible refine Below.alloc ?_ ?_ _) | (with_reducible refine Below.drew ?_) | (with_reducible refine bel_drewN ?_ _) | (with_reducible refine bel_grown ?_ (by assumption) ?_ ?_) | (with_reducible refine Below.setCell ?_ ?_ _) | go_size)) (hT6.below hqp (by omega))
        obtain ⟨Z6, rfl⟩ : ∃ Z : Later X2.w.heap.size X2.w, w6 = Z.w := ⟨⟨w6, hb6⟩, rfl⟩
        clear hR6 hC6 hT6 hb6
        by_cases hv : op = 17 ∨ op = 18
        · have he8 := (each_ev op).1 hv
          have PI := Lib.hid (xitems_ev X2.w.heap.size Y1.w.heap.size (3 + (onceI op).toNat) cnt op _ _ _ _ _ _ _ _ L Z6.w HR6.out HS.out hqp HC6.out (by have := HF2.out; rw [he8] at this; exact this) hv hf4)
          have HV := Lib.hid hv
          clear hv he8
          go_wp2_with fail
          refine PI.out.mono ?_
          rintro e w7 ⟨rfl, A2, c2, hC7, hO7, hT7⟩
          have hs7 := hT7.size
          have HC7 := Lib.hid hC7
          have HO7 := Lib.hid ((far_own hO7).low (lo' := X2.w.heap.size) (by omega))
          have hb7 : Below X2.w.heap.size X2.w w7 := Below.trans (b := Z6.w) (by repeat' (first | (with_reducible exact Below.refl _ _) | (with_reducible assumption) | (with_reducible refine Later.step ?_ ?_ _) | (with_reducible refine Below.alloc ?_ ?_ _) | (with_reducible refine Below.drew ?_) | (with_reducible refine bel_drewN ?_ _) | (with_reducible refine bel_grown ?_ (by assumption) ?_ ?_) | (with_reducible refine Below.setCell ?_ ?_ _) | go_size)) (hT7.below hqp (by omega))
          obtain ⟨Z7, rfl⟩ : ∃ Z : Later X2.w.heap.size X2.w, w7 = Z.w := ⟨⟨w7, hb7⟩, rfl⟩
          clear hC7 hO7 hT7 hb7
          go_wp2_with fail
          go_meet
          have e1 : rdNs op m L = 0 := by unfold rdNs; rw [if_neg (fun h => h.2 HV.out)]
          have e2 : rdNe op m L = cnt := by unfold rdNe; rw [if_pos ⟨HON.out, HV.out⟩, H2.out]; rfl
          refine ⟨⟨none, 0, A2, c2, ?_, ?_, ?_⟩, by repeat' (first | (with_reducible exact Below.refl _ _) | (with_reducible assumption) | (with_reducible refine Later.step ?_ ?_ _) | (with_reducible refine Below.alloc ?_ ?_ _) | (with_reducible refine Below.drew ?_) | (with_reducible refine bel_drewN ?_ _) | (with_reducible refine bel_grown ?_ (by assumption) ?_ ?_) | (with_reducible refine Below.setCell ?_ ?_ _) | go_size), by omega⟩
          · simp only [rdN_on HON.out]
            rw [H0.out, e1, e2]
            exact HC7.out
          · rw [e1]
            exact far_nil _ _ _ _ _ _
          · rw [e2]
            intro hpos
            have h9 := HO7.out hpos
            rw [HF3.out hpos] at h9
            exact h9
        · have he8 : 0 < cnt → eachI op = 11 := fun h => by
            have hec := each_cases op
            have hev := each_ev op
            have h8 : ¬ eachI op = 8 := fun e => hv (hev.2 e)
            have h9 := HCE.out
            omega
          have PI := Lib.hid (xitems_se X2.w.heap.size Y1.w.heap.size (3 + (onceI op).toNat) cnt op _ _ _ _ _ _ _ _ L Z6.w HR6.out HS.out hqp HC6.out (by
            have h9 := HF2.out
            rcases Nat.eq_zero_or_pos cnt with h0 | h0
            · subst h0
              omega
            · rw [he8 h0] at h9
              exact h9) hv hf4)
          have HV := Lib.hid hv
          clear hv he8
          go_wp2_with fail
          refine PI.out.mono ?_
          rintro e w7 ⟨rfl, A2, c2, hC7, hO7, hT7⟩
          have hs7 := hT7.size
          have HC7 := Lib.hid hC7
          have HO7 := Lib.hid ((far_own hO7).low (lo' := X2.w.heap.size) (by omega))
          have hb7 : Below X2.w.heap.size X2.w w7 := Below.trans (b := Z6.w) (by repeat' (first | (with_reducible exact Below.refl _ _) | (with_reducible assumption) | (with_reducible refine Later.step ?_ ?_ _) | (with_reducible refine Below.alloc ?_ ?_ _) | (with_reducible refine Below.drew ?_) | (with_reducible refine bel_drewN ?_ _) | (with_reducible refine bel_grown ?_ (by assumption) ?_ ?_) | (with_reducible refine Below.setCell ?_ ?_ _) | go_size)) (hT7.below hqp (by omega))
          obtain ⟨Z7, rfl⟩ : ∃ Z : Later X2.w.heap.size X2.w, w7 = Z.w := ⟨⟨w7, hb7⟩, rfl⟩
          clear hC7 hO7 hT7 hb7
          go_wp2_with fail
          go_meet
          have e1 : rdNe op m L = 0 := by unfold rdNe; rw [if_neg (fun h => HV.out h.2)]
          have e2 : rdNs op m L = cnt := by unfold rdNs; rw [if_pos ⟨HON.out, HV.out⟩, H2.out]; rfl
          refine ⟨⟨A2, c2, none, 0, ?_, ?_, ?_⟩, by repeat' (first | (with_reducible exact Below.refl _ _) | (with_reducible assumption) | (with_reducible refine Later.step ?_ ?_ _) | (with_reducible refine Below.alloc ?_ ?_ _) | (with_reducible refine Below.drew ?_) | (with_reducible refine bel_drewN ?_ _) | (with_reducible refine bel_grown ?_ (by assumption) ?_ ?_) | (with_reducible refine Below.setCell ?_ ?_ _) | go_size), by omega⟩
          · simp only [rdN_on HON.out]
            rw [H0.out, e1, e2]
            exact HC7.out
          · rw [e2]
            intro hpos
            have h9 := HO7.out hpos
            rw [HF3.out hpos] at h9
            exact h9
          · rw [e1]
            exact far_nil _ _ _ _ _ _
    case rest =>
      obtain ⟨hmid, hb9, hs9⟩ := hcut
      have hm9 := hmid.out
      unfold DecMid at hm9
      obtain ⟨A1, c1, A2, c2, hC, hI1, hI2⟩ := hm9
      obtain ⟨V, rfl⟩ : ∃ Z : Later X2.w.heap.size X2.w, wc = Z.w := ⟨⟨wc, hb9⟩, rfl⟩
      have hk : 0 ≤ rdN op m L (op = 4 ∨ op = 5) 3 8 ∧ rdN op m L (op = 4 ∨ op = 5) 3 8 ≤ 18446744073709551615 := by
        unfold rdN
        split
        · have h9 := numR_bd HS.out 3 8
          simp at h9
          omega
        · omega
      have hns : rdNs op m L ≤ 9223372036854775807 ∧ rdNe op m L ≤ 9223372036854775807 := by
        unfold rdNs rdNe
        rw [H2.out]
        constructor
        all_goals
          split <;> omega
      obtain ⟨v0, hv0⟩ : ∃ v, numR L 0 1 = v := ⟨_, rfl⟩
      obtain ⟨v1, hv1⟩ : ∃ v, rdN op m L (op = 4 ∨ op = 5) 3 8 = v := ⟨_, rfl⟩
      obtain ⟨v2, hv2⟩ : ∃ v, rdN op m L (op = 12) 3 2 = v := ⟨_, rfl⟩
      obtain ⟨v3, hv3⟩ : ∃ v, rdN op m L (op = 12) 5 2 = v := ⟨_, rfl⟩
      obtain ⟨v4, hv4⟩ : ∃ v, rdN op m L (op = 12) 7 1 = v := ⟨_, rfl⟩
      obtain ⟨v5, hv5⟩ : ∃ v, rdN op m L (op = 10) 3 2 = v := ⟨_, rfl⟩
      obtain ⟨v6, hv6⟩ : ∃ v, rdN op m L (op = 10) 5 2 = v := ⟨_, rfl⟩
      obtain ⟨v7, hv7⟩ : ∃ v, rdN op m L (op = 10) 7 2 = v := ⟨_, rfl⟩
      obtain ⟨v8, hv8⟩ : ∃ v, rdN op m L (op = 10) 9 2 = v := ⟨_, rfl⟩
      obtain ⟨ns, hvs⟩ : ∃ v, rdNs op m L = v := ⟨_, rfl⟩
      obtain ⟨ne, hve⟩ : ∃ v, rdNe op m L = v := ⟨_, rfl⟩
      obtain ⟨f, hvf⟩ : ∃ v, rdF L 3 = v := ⟨_, rfl⟩
      obtain ⟨g, hvg⟩ : ∃ v, rdG L 3 = v := ⟨_, rfl⟩
      have FY := Lib.hid (show fitsA op m v0 v1 0 v2 v3 v4 v5 v6 v7 v8 ns ne f g → padL (encL op v0 v1 v2 v3 v4 v5 v6 v7 v8 ns ne f g) n = L → ∀ (e : Ending) (w' : World), (∃ A1 c1 A2 c2, e = .returned (.tuple #[.agg #[.int .i64 v0, .int .u64 v1, .int .i64 0, .int .i64 v2, .int .i64 v3, .int .i64 v4, .int .i64 v5, .int .i64 v6, .int .i64 v7, .int .i64 v8, .slice A1 ns c1, .slice A2 ne c2], .int .i64 0]) ∧ IsItems w' w'.heap.size A1 ns 6 f ∧ IsItems w' w'.heap.size A2 ne 4 g) → Below w.heap.size w w' → DecPost op m L w e w' from by
        subst hv0 hv1 hv2 hv3 hv4 hv5 hv6 hv7 hv8 hvs hve hvf hvg
        intro h1 h2 e w' h3 h4
        refine ⟨?_, h4⟩
        rw [if_pos ⟨h1, by rw [HN.out]; exact h2⟩]
        exact h3)
      have FN := Lib.hid (show ¬ (fitsA op m v0 v1 0 v2 v3 v4 v5 v6 v7 v8 ns ne f g ∧ padL (encL op v0 v1 v2 v3 v4 v5 v6 v7 v8 ns ne f g) n = L) → ∀ (e : Ending) (w' : World), e = .returned (.tuple #[.agg #[.int .i64 0, .int .u64 0, .int .i64 0, .int .i64 0, .int .i64 0, .int .i64 0, .int .i64 0, .int .i64 0, .int .i64 0, .int .i64 0, .slice none 0 0, .slice none 0 0], .int .i64 33]) → Below w.heap.size w w' → DecPost op m L w e w' from by
        subst hv0 hv1 hv2 hv3 hv4 hv5 hv6 hv7 hv8 hvs hve hvf hvg
        intro h1 e w' h3 h4
        refine ⟨?_, h4⟩
        rw [if_neg (fun h => h1 ⟨h.1, by have := h.2; rwa [HN.out] at this⟩)]
        exact h3)
      rw [hv0, hv1, hv2, hv3, hv4, hv5, hv6, hv7, hv8, hvs, hve] at hC
      rw [hvs, hvf] at hI1
      rw [hve, hvg] at hI2
      rw [hv1] at hk
      rw [hvs, hve] at hns
      clear hv0 hv1 hv2 hv3 hv4 hv5 hv6 hv7 hv8 hvs hve hvf hvg hmid HTO HTN
      have hnl : (lengthI op m).toNat = n := by
        rw [← HLL.out, HN.out]
        rfl
      obtain ⟨d0, d1, d2, d3, d4, d5, d6, d7, d8, d9, d10, d11⟩ := hC.ans
      have HC9 := Lib.hid hC
      have HI1 := Lib.hid hI1
      have HI2 := Lib.hid hI2
      have htt := HT.out
      clear hC hI1 hI2
      by_cases hfit : fitsA op m v0 v1 0 v2 v3 v4 v5 v6 v7 v8 ns ne f g
      · have PE := Lib.hid (encode_ok op m v0 v1 0 v2 v3 v4 v5 v6 v7 v8 A1 A2 ns ne c1 c2 f g V.w HI1.out.near HI2.out.near hns.1 hns.2 hk.1 hk.2 hfit)
        rw [hnl] at PE
        obtain ⟨R, hR⟩ : ∃ R, padL (encL op v0 v1 v2 v3 v4 v5 v6 v7 v8 ns ne f g) n = R := ⟨_, rfl⟩
        rw [hR] at PE FY FN
        have HRR := Lib.hid hR
        have HFIT := Lib.hid hfit
        have HNL := Lib.hid hnl
        clear hfit hR hnl
        go_wp2_with fail
        refine PE.out.mono ?_
        rintro e w9 ⟨A9, c9, rfl, hr9, hb9⟩
        have hs9 := hb9.size
        have hbb : Below w.heap.size w w9 := Below.trans (b := V.w) (by repeat' (first | (with_reducible exact Below.refl _ _) | (with_reducible assumption) | (with_reducible refine Later.step ?_ ?_ _) | (with_reducible refine Below.alloc ?_ ?_ _) | (with_reducible refine Below.drew ?_) | (with_reducible refine bel_drewN ?_ _) | (with_reducible refine bel_grown ?_ (by assumption) ?_ ?_) | (with_reducible refine Below.setCell ?_ ?_ _) | go_size)) (hb9.mono (by omega))
        obtain ⟨b9, o9, rfl, hlt9, hcl9⟩ := hr9 (by omega)
        obtain ⟨b8, o8, rfl, hlt8, hcl8⟩ := (HR.out.keep hbb) (by rw [HN.out]; omega)
        have hRlen : R.length = n := by
          rw [← HRR.out]
          unfold padL
          have h9 := encL_fits HFIT.out
          rw [← HLL.out, HN.out] at h9
          rw [List.length_append, List.length_replicate]
          omega
        have hcv1 := conv_at (c := c9) hRlen hcl9
        have hcv2 := conv_at (c := c) HN.out (fun j hj => hcl8 j (by rw [HN.out]; exact hj))
        have hSR : Small R := by rw [← HRR.out]; exact padL_small (encL_small _ _ _ _ _ _ _ _ _ _ _ _ _ _) _
        have HSR := Lib.hid hSR
        obtain ⟨V9, rfl⟩ : ∃ Z : Later V.w.heap.size V.w, w9 = Z.w := ⟨⟨w9, hb9⟩, rfl⟩
        clear hb9 hbb hcl9 hcl8 hr9 hRlen hSR
        by_cases he : R = L
        · have HFY := Lib.hid (FY.out HFIT.out he)
          obtain ⟨SL, hSL⟩ : ∃ S, strL L = S := ⟨_, rfl⟩
          rw [he, hSL] at hcv1
          rw [hSL] at hcv2
          have hns1 : (!SL.toList == SL.toList) = false := by simp
          clear he FY FN hSL
          go_wp2
          refine bodyPost_ret (v := .tuple #[.agg #[.int .i64 v0, .int .u64 v1, .int .i64 0, .int .i64 v2, .int .i64 v3, .int .i64 v4, .int .i64 v5, .int .i64 v6, .int .i64 v7, .int .i64 v8, .slice A1 ns c1, .slice A2 ne c2], .int .i64 0]) (by simp only [results, Try.results18]; go_simp; all_goals (first | rfl | simp [sel])) rfl (HFY.out _ _ ⟨A1, c1, A2, c2, rfl, ?_, ?_⟩ ?_)
          · have HF := HI1.out.keep V9.is (by omega)
            have hrc : w.heap.size < X2.w.heap.size := by omega
            apply FarItems.near (lo := X2.w.heap.size)
            repeat' (first | with_reducible exact HF | (with_reducible refine FarItems.set ?_ ?_ _) | exact hrc)
          · have HF := HI2.out.keep V9.is (by omega)
            have hrc : w.heap.size < X2.w.heap.size := by omega
            apply FarItems.near (lo := X2.w.heap.size)
            repeat' (first | with_reducible exact HF | (with_reducible refine FarItems.set ?_ ?_ _) | exact hrc)
          · repeat' (first | (with_reducible exact Below.refl _ _) | (with_reducible assumption) | (with_reducible refine Later.step ?_ ?_ _) | (with_reducible refine Below.alloc ?_ ?_ _) | (with_reducible refine Below.drew ?_) | (with_reducible refine bel_drewN ?_ _) | (with_reducible refine bel_grown ?_ (by assumption) ?_ ?_) | (with_reducible refine Below.setCell ?_ ?_ _) | go_size)
        · have hne : ¬ (strL R).toList = (strL L).toList := fun h => he (strL_inj HSR.out HS.out h)
          have HFN := Lib.hid (FN.out (fun h => he h.2))
          obtain ⟨SR, hSR⟩ : ∃ S, strL R = S := ⟨_, rfl⟩
          obtain ⟨SL, hSL⟩ : ∃ S, strL L = S := ⟨_, rfl⟩
          rw [hSR] at hcv1 hne
          rw [hSL] at hcv2 hne
          have hns1 : (!SR.toList == SL.toList) = true := by simpa using hne
          clear he FY FN hSR hSL hne
          go_wp2
          refine bodyPost_ret (v := .tuple #[.agg #[.int .i64 0, .int .u64 0, .int .i64 0, .int .i64 0, .int .i64 0, .int .i64 0, .int .i64 0, .int .i64 0, .int .i64 0, .int .i64 0, .slice none 0 0, .slice none 0 0], .int .i64 33]) (by simp only [results, Try.results18]; go_simp; all_goals (first | rfl | simp [sel])) rfl (HFN.out _ _ rfl ?_)
          repeat' (first | (with_reducible exact Below.refl _ _) | (with_reducible assumption) | (with_reducible refine Later.step ?_ ?_ _) | (with_reducible refine Below.alloc ?_ ?_ _) | (with_reducible refine Below.drew ?_) | (with_reducible refine bel_drewN ?_ _) | (with_reducible refine bel_grown ?_ (by assumption) ?_ ?_) | (with_reducible refine Below.setCell ?_ ?_ _) | go_size)
      · have PE := Lib.hid (encode_none op m v0 v1 0 v2 v3 v4 v5 v6 v7 v8 A1 A2 ns ne c1 c2 f g V.w HI1.out.near HI2.out.near hns.1 hns.2 ⟨htt.1, htt.2.1⟩ hfit)
        have HFN := Lib.hid (FN.out (fun h => hfit h.1))
        clear hfit hnl FY FN
        go_wp2_with fail
        refine PE.out.mono ?_
        rintro e w9 ⟨rfl, hb9⟩
        have hs9 := hb9.size
        obtain ⟨V9, rfl⟩ : ∃ Z : Later V.w.heap.size V.w, w9 = Z.w := ⟨⟨w9, hb9⟩, rfl⟩
        clear hb9
        go_wp2
        refine bodyPost_ret (v := .tuple #[.agg #[.int .i64 0, .int .u64 0, .int .i64 0, .int .i64 0, .int .i64 0, .int .i64 0, .int .i64 0, .int .i64 0, .int .i64 0, .int .i64 0, .slice none 0 0, .slice none 0 0], .int .i64 33]) (by simp only [results, Try.results18]; go_simp; all_goals (first | rfl | simp [sel])) rfl (HFN.out _ _ rfl ?_)
        repeat' (first | (with_reducible exact Below.refl _ _) | (with_reducible assumption) | (with_reducible refine Later.step ?_ ?_ _) | (with_reducible refine Below.alloc ?_ ?_ _) | (with_reducible refine Below.drew ?_) | (with_reducible refine bel_drewN ?_ _) | (with_reducible refine bel_grown ?_ (by assumption) ?_ ?_) | (with_reducible refine Below.setCell ?_ ?_ _) | go_size)
end Go.Proofs.Ytdjkhcnejbinjaa
