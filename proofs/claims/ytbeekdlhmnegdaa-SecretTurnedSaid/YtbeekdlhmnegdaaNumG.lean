/- A number's hex text: what it is, and the functions walked. No condition. -/
import Derived.Test.YtbeekdlhmnegdaaNumF
import Derived.Test.YtbeekdlhmnegdaaNumB
namespace Go.Proofs.Ytbeekdlhmnegdaa
open Go.RowKit Go.PlainAid
set_option linter.unusedSimpArgs false
set_option linter.unusedVariables false

/-- A hex digit, and what it is worth. -/
def hexD (x : Nat) : Nat := if x < 10 then 48 + x else 87 + x
def hexB (c : Nat) : Bool := decide ((48 ≤ c ∧ c ≤ 57) ∨ (97 ≤ c ∧ c ≤ 102))
def valX (c : Nat) : Nat := if c ≤ 57 then c - 48 else c - 87
def hexF : Nat → Nat → List Nat
  | 0, _ => []
  | k + 1, n => hexD (n / 16 ^ k % 16) :: hexF k n
def readX (l : List Nat) : Nat := l.foldl (fun a c => 16 * a + valX c) 0
def hexOk (l : List Nat) : Bool := decide (l.length = 16) && l.all hexB
theorem hexF_len : ∀ k n, (hexF k n).length = k
  | 0, _ => rfl
  | k + 1, n => by rw [hexF, List.length_cons, hexF_len k]
theorem hexD_ok {x : Nat} (h : x < 16) : hexB (hexD x) = true ∧ valX (hexD x) = x := by
  unfold hexB hexD valX
  by_cases h1 : x < 10
  · rw [if_pos h1, if_pos (by omega)]
    exact ⟨by simp only [decide_eq_true_eq]; omega, by omega⟩
  · rw [if_neg h1, if_neg (by omega)]
    exact ⟨by simp only [decide_eq_true_eq]; omega, by omega⟩
theorem valX_ok {c : Nat} (h : hexB c = true) : valX c < 16 ∧ hexD (valX c) = c := by
  simp only [hexB, decide_eq_true_eq] at h
  unfold hexD valX
  by_cases h1 : c ≤ 57
  · rw [if_pos h1, if_pos (by omega)]; omega
  · rw [if_neg h1, if_neg (by omega)]; omega
theorem hexF_all : ∀ k n, ∀ x ∈ hexF k n, hexB x = true
  | 0, _, _, h => by cases h
  | k + 1, n, x, h => by
    rw [hexF, List.mem_cons] at h
    rcases h with rfl | h
    · exact (hexD_ok (Nat.mod_lt _ (by omega))).1
    · exact hexF_all k n x h
theorem hexF_get : ∀ k n j, j < k → (hexF k n).getD j 0 = hexD (n / 16 ^ (k - 1 - j) % 16)
  | 0, _, _, h => by omega
  | k + 1, n, 0, _ => by rw [hexF]; simp
  | k + 1, n, j + 1, h => by
    rw [hexF, List.getD_cons_succ, hexF_get k n j (by omega), show k + 1 - 1 - (j + 1) = k - 1 - j by omega]
theorem readX_base : ∀ (l : List Nat) (a : Nat), l.foldl (fun a c => 16 * a + valX c) a = 16 ^ l.length * a + readX l
  | [], a => by simp [readX]
  | c :: l, a => by
    have h : readX (c :: l) = 16 ^ l.length * valX c + readX l := by rw [readX, List.foldl_cons, readX_base l]; simp
    rw [List.foldl_cons, readX_base l, h, List.length_cons, Nat.pow_succ, Nat.mul_add, ← Nat.mul_assoc, Nat.add_assoc]
theorem readX_cons (c : Nat) (l : List Nat) : readX (c :: l) = 16 ^ l.length * valX c + readX l := by
  rw [readX, List.foldl_cons, readX_base]; simp
theorem readX_snoc (l : List Nat) (c : Nat) : readX (l ++ [c]) = 16 * readX l + valX c := by simp [readX]
theorem readX_lt : ∀ l : List Nat, (∀ x ∈ l, hexB x = true) → readX l < 16 ^ l.length
  | [], _ => by simp [readX]
  | c :: l, h => by
    have h1 := (valX_ok (h c (by simp))).1
    have h2 := readX_lt l (fun x hx => h x (by simp [hx]))
    rw [readX_cons, List.length_cons, Nat.pow_succ]
    have := Nat.mul_le_mul_left (16 ^ l.length) (show valX c + 1 ≤ 16 from h1)
    rw [Nat.mul_add, Nat.mul_one] at this
    omega
theorem read_hex (n : Nat) : ∀ k, readX (hexF k n) = n % 16 ^ k
  | 0 => by simp [readX, hexF, Nat.mod_one]
  | k + 1 => by
    rw [hexF, readX_cons, hexF_len, read_hex n k, (hexD_ok (Nat.mod_lt _ (by omega))).2, Nat.pow_succ, Nat.mod_mul]
    omega
theorem hexF_up (v r : Nat) : ∀ (k j : Nat), j ≤ k → hexF j (16 ^ k * v + r) = hexF j r
  | k, 0, _ => rfl
  | k, j + 1, h => by
    rw [hexF, hexF, hexF_up v r k j (by omega)]
    congr 2
    obtain ⟨q, rfl⟩ : ∃ q, k = j + 1 + q := ⟨k - (j + 1), by omega⟩
    rw [Nat.pow_add, Nat.pow_succ, Nat.mul_assoc, Nat.mul_assoc, Nat.mul_add_div (Nat.pow_pos (by omega)), Nat.mul_add_mod]
theorem hex_read : ∀ l : List Nat, (∀ x ∈ l, hexB x = true) → hexF l.length (readX l) = l
  | [], _ => rfl
  | c :: l, h => by
    have h1 := valX_ok (h c (by simp))
    have h2 : ∀ x ∈ l, hexB x = true := fun x hx => h x (by simp [hx])
    have h3 := readX_lt l h2
    rw [readX_cons, List.length_cons, hexF, hexF_up _ _ _ _ (Nat.le_refl _), hex_read l h2, Nat.mul_add_div (Nat.pow_pos (by omega)), Nat.div_eq_of_lt h3, Nat.add_zero, Nat.mod_eq_of_lt h1.1, h1.2]

/-- What reading a hex text answers. -/
def hexV (l : List Nat) : Nat := if hexOk l then readX l else 0
def errX (l : List Nat) : Int := if hexOk l then 0 else 11
theorem hex_no {l : List Nat} (h : hexOk l = false) : hexV l = 0 ∧ errX l = 11 := by simp [hexV, errX, h]
theorem hex_yes {l : List Nat} (h : hexOk l = true) : hexV l = readX l ∧ errX l = 0 := by simp [hexV, errX, h]
theorem hexOk_iff {l : List Nat} : hexOk l = true ↔ l.length = 16 ∧ ∀ j, j < l.length → hexB (l.getD j 0) = true := by
  unfold hexOk
  rw [Bool.and_eq_true, decide_eq_true_eq, List.all_eq_true]
  constructor
  · rintro ⟨h1, h2⟩
    exact ⟨h1, fun j hj => h2 _ (by simp [List.getD, hj])⟩
  · rintro ⟨h1, h2⟩
    refine ⟨h1, fun x hx => ?_⟩
    obtain ⟨j, hj, rfl⟩ := List.getElem_of_mem hx
    have := h2 j hj
    simpa [List.getD, hj] using this
theorem hexOk_hexF (n : Nat) : hexOk (hexF 16 n) = true := by
  unfold hexOk
  rw [Bool.and_eq_true, decide_eq_true_eq, List.all_eq_true]
  exact ⟨hexF_len _ _, hexF_all _ _⟩
theorem hexV_hexF {n : Nat} (h : n < 18446744073709551616) : hexV (hexF 16 n) = n ∧ errX (hexF 16 n) = 0 := by
  obtain ⟨h1, h2⟩ := hex_yes (hexOk_hexF n)
  rw [h1, h2, read_hex]
  exact ⟨Nat.mod_eq_of_lt (by have : (16 : Nat) ^ 16 = 18446744073709551616 := by decide
                              omega), rfl⟩

theorem and15 {E : Int} (h0 : 0 ≤ E) (h1 : E ≤ 18446744073709551615) : bits BinOp.and IntKind.u64 E 15 = E % 16 := by
  have h := bits_and_u64_nat E.toNat 15 (by omega) (by omega)
  rw [show (15 : Nat) = 2 ^ 4 - 1 from rfl, Nat.and_two_pow_sub_one_eq_mod] at h
  rw [Int.toNat_of_nonneg h0] at h
  have h2 : ((E.toNat % 2 ^ 4 : Nat) : Int) = E % 16 := by omega
  exact h.trans h2

/-- The row while it is filled from its end. -/
def rowH (n k j : Nat) : Int := if 16 - k ≤ j ∧ j < 16 then ((hexF 16 n).getD j 0 : Nat) else 0
theorem rowH_zero (n j : Nat) : rowH n 0 j = 0 := by unfold rowH; rw [if_neg (by omega)]
theorem rowH_all {n j : Nat} (h : j < 16) : rowH n 16 j = ((hexF 16 n).getD j 0 : Nat) := by unfold rowH; rw [if_pos (by omega)]
theorem pow4 (k : Nat) : (2 : Int) ^ (4 * k) = 16 ^ k := by rw [Int.pow_mul]; rfl
theorem rowH_step {n k j : Nat} (hk : k < 16) : rowH n (k + 1) j = if j = 15 - k then ((hexD (n / 16 ^ k % 16) : Nat) : Int) else rowH n k j := by
  unfold rowH
  by_cases e : j = 15 - k
  · subst e
    rw [if_pos (by omega), if_pos rfl, hexF_get _ _ _ (by omega), show 16 - 1 - (15 - k) = k by omega]
  · rw [if_neg e]
    by_cases h : 16 - k ≤ j ∧ j < 16
    · rw [if_pos h, if_pos (by omega)]
    · rw [if_neg h, if_neg (by omega)]

theorem digit_any (x : Nat) (w : World) (h1 : x < 16) :
    Calls Try.prog 21 #[.int .u8 x] w fun e w' => e = .returned (.int .u8 (hexD x : Nat)) ∧ Below w.heap.size w w' := by
  go_enter Try.func21, Try.ntmps21
  go_wp2
  all_goals
    go_ret
    exact ⟨ret_i (by unfold hexD; split <;> omega), Below.refl _ _⟩
set_option maxHeartbeats 4000000 in
theorem hex_any (n : Nat) (w : World) (h1 : n < 18446744073709551616) :
    Calls Try.prog 18 #[.int .u64 n] w fun e w' => e = .returned (.string (txt (hexF 16 n))) ∧ Below w.heap.size w w' := by
  go_enter Try.func18, Try.ntmps18
  go_wp2
  go_loopw [5] (fun i wr => ∃ k : Nat, k ≤ 16 ∧ i = .int .i64 k ∧ Below w.heap.size w wr ∧ w.heap.size + 1 ≤ wr.heap.size ∧ Hid (∀ j, j < 16 → wr.cell? ⟨w.heap.size, j, none⟩ = some (.int .u8 (rowH n k j)) ∧ wr.frozen? ⟨w.heap.size, j, none⟩ = false)) (fun i _ => 16 - (intOf i).toNat)
  case atStart =>
    refine ⟨0, Nat.zero_le _, rfl, by repeat' (first | (with_reducible exact Below.refl _ _) | (with_reducible assumption) | (with_reducible refine Later.step ?_ ?_ _) | (with_reducible refine Below.alloc ?_ ?_ _) | (with_reducible refine Below.drew ?_) | (with_reducible refine bel_drewN ?_ _) | (with_reducible refine bel_grown ?_ (by assumption) ?_ ?_) | (with_reducible refine Below.setCell ?_ ?_ _) | go_size), by simp, fun j hj => ?_⟩
    rw [rowH_zero]
    match j, hj with
    | 0, _ | 1, _ | 2, _ | 3, _ | 4, _ | 5, _ | 6, _ | 7, _ | 8, _ | 9, _ | 10, _ | 11, _ | 12, _ | 13, _ | 14, _ | 15, _ => go_simp
    | q + 16, h => omega
  case round =>
    obtain ⟨k, hk, rfl, hbel, hsz, hcs⟩ := hrel
    by_cases hlt : k < 16
    · have hx : bits BinOp.and IntKind.u64 ((n : Int) / 2 ^ (4 * k)) 15 % 256 = ((n / 16 ^ k % 16 : Nat) : Int) := by
        have e : ((n : Int) / 2 ^ (4 * k)) = ((n / 16 ^ k : Nat) : Int) := by rw [pow4]; push_cast; rfl
        have hle : n / 16 ^ k ≤ n := Nat.div_le_self _ _
        obtain ⟨m, hm⟩ : ∃ m, n / 16 ^ k = m := ⟨_, rfl⟩
        rw [hm] at hle ⊢
        rw [e, hm, and15 (by omega) (by omega)]
        omega
      have hdig := fun (X : World) => digit_any (n / 16 ^ k % 16) X (Nat.mod_lt _ (by omega))
      have HX := Lib.hid hx
      have HD := Lib.hid hdig
      obtain ⟨d, hd⟩ : ∃ d, hexD (n / 16 ^ k % 16) = d := ⟨_, rfl⟩
      have HE := Lib.hid hd
      clear hx hdig hd
      have HH := hcs.out (15 - k) (by omega)
      go_wp2_with fail
      rw [HX.out]
      refine (HD.out _).mono ?_
      rintro e w' ⟨rfl, hb⟩
      obtain ⟨X1, rfl, hl1, hm1⟩ := later (w.heap.size + 1) hb hsz
      clear hb
      rw [HE.out]
      obtain ⟨hc, hf⟩ := HH
      go_wp2
      go_roundw
      case rel =>
        refine ⟨k + 1, by omega, by go_num, by repeat' (first | (with_reducible exact Below.refl _ _) | (with_reducible assumption) | (with_reducible refine Later.step ?_ ?_ _) | (with_reducible refine Below.alloc ?_ ?_ _) | (with_reducible refine Below.drew ?_) | (with_reducible refine bel_drewN ?_ _) | (with_reducible refine bel_grown ?_ (by assumption) ?_ ?_) | (with_reducible refine Below.setCell ?_ ?_ _) | go_size), by rw [World.size_setCell]; exact hl1, fun j hj => ?_⟩
        · obtain ⟨hc', hf'⟩ := hcs.out j hj
          rw [World.frozen?_setCell, X1.is.frozen (p := ⟨w.heap.size, j, none⟩) (by simp), rowH_step hlt]
          refine ⟨?_, hf'⟩
          by_cases e : j = 15 - k
          · subst e; rw [if_pos rfl, HE.out]; exact World.cell?_setCell_same _ _ _ (by rw [X1.is.cell (p := ⟨w.heap.size, 15 - k, none⟩) (by simp)]; exact hc)
          · rw [if_neg e, World.cell?_setCell_other _ _ _ _ (by intro h; injection h with _ h2; exact e h2.symm), X1.is.cell (p := ⟨w.heap.size, j, none⟩) (by simp)]; exact hc'
      case measure => simp [intOf]; omega
    · obtain rfl : k = 16 := by omega
      have hcv := run_convert_bytes_arg (P := Try.prog) wr 38 5 Try.underlying38 Try.underlying5 w.heap.size 0 16 16 ((hexF 16 n).map fun x => ((x : Nat) : Int)) (by simp [hexF_len])
        (fun i hi => by
          rw [Nat.zero_add, (hcs.out i hi).1, rowH_all hi]
          simp [List.getD, List.getElem?_eq_getElem (show i < (hexF 16 n).length by rw [hexF_len]; exact hi)]) 9 Try.underlying9
      rw [txt_nums] at hcv
      go_wp2
      go_ret
      exact ⟨rfl, by repeat' (first | (with_reducible exact Below.refl _ _) | (with_reducible assumption) | (with_reducible refine Later.step ?_ ?_ _) | (with_reducible refine Below.alloc ?_ ?_ _) | (with_reducible refine Below.drew ?_) | (with_reducible refine bel_drewN ?_ _) | (with_reducible refine bel_grown ?_ (by assumption) ?_ ?_) | (with_reducible refine Below.setCell ?_ ?_ _) | go_size)⟩
theorem hex_cut {k : Nat} (h : k < 16) : (⟨#[48, 49, 50, 51, 52, 53, 54, 55, 56, 57, 97, 98, 99, 100, 101, 102]⟩ : ByteArray).extract k (k + 1) = txt [hexD k] := by
  match k, h with
  | 0, _ | 1, _ | 2, _ | 3, _ | 4, _ | 5, _ | 6, _ | 7, _ | 8, _ | 9, _ | 10, _ | 11, _ | 12, _ | 13, _ | 14, _ | 15, _ => rfl
  | n + 16, h => omega
set_option maxHeartbeats 4000000 in
theorem rhex_any (n : Nat) (w : World) (h1 : n < 18446744073709551616) :
    Calls Try.prog 20 #[.int .u64 n] w fun e w' => e = .returned (.string (txt (hexF 16 n))) ∧ Below w.heap.size w w' := by
  go_enter Try.func20, Try.ntmps20
  go_wp2
  go_loop [0, 4, 5] (fun v s i => ∃ k : Nat, k ≤ 16 ∧ i = .int .i64 k ∧ v = .int .u64 ((n / 16 ^ k : Nat) : Int) ∧ s = .string (txt (hexF k n))) (fun _ _ i => 16 - (intOf i).toNat)
  case atStart => exact ⟨0, Nat.zero_le _, rfl, by simp, rfl⟩
  case round =>
    obtain ⟨k, hk, rfl, rfl, rfl⟩ := hrel
    by_cases hlt : k < 16
    · have hle : n / 16 ^ k ≤ n := Nat.div_le_self _ _
      have hq : n / 16 ^ k / 16 = n / 16 ^ (k + 1) := by rw [Nat.pow_succ, Nat.div_div_eq_div_mul]
      obtain ⟨m, hm⟩ : ∃ m, n / 16 ^ k = m := ⟨_, rfl⟩
      have he := hex_cut (show m % 16 < 16 from Nat.mod_lt _ (by omega))
      have hap : txt [hexD (m % 16)] ++ txt (hexF k n) = txt (hexF (k + 1) n) := by rw [txt_app, hexF, hm]; rfl
      have hs1 : (txt [hexD (m % 16)]).size ≤ 20 := by rw [txt_size]; simp
      have hs2 : (txt (hexF k n)).size ≤ 20 := by rw [txt_size, hexF_len]; omega
      rw [hm] at hle hq ⊢
      have hr0 : (0 : Int) ≤ (m : Int) % 16 := by omega
      have hr1 : (m : Int) % 16 ≤ 15 := by omega
      have HE := Lib.hid he
      have HA := Lib.hid hap
      have HQ := Lib.hid hq
      obtain ⟨s, hs⟩ : ∃ s, txt (hexF k n) = s := ⟨_, rfl⟩
      rw [hs] at hs2 ⊢
      clear he hap hq
      go_wp2
      go_round
      case rel => exact ⟨k + 1, by omega, by go_num, by rw [← HQ.out]; simp, by rw [← HA.out, ← HE.out, hs]⟩
      case measure => simp [intOf]; omega
    · obtain rfl : k = 16 := by omega
      go_wp2
      go_ret
      exact ⟨rfl, Below.refl _ _⟩
end Go.Proofs.Ytbeekdlhmnegdaa
