/- What the layer of numbers answers, as plain functions on numbers and lists of bytes. No condition. -/
namespace Go.Proofs.Ytjfgjlklbepnjaa
set_option linter.unusedSimpArgs false
set_option linter.unusedVariables false

/-! ### bytes of a width -/
def putL : Nat → Nat → List Nat
  | _, 0 => []
  | n, k + 1 => putL (n / 256) k ++ [n % 256]
def getL (l : List Nat) : Nat := l.foldl (fun a x => 256 * a + x) 0

theorem getD_left {a b : List Nat} {i d : Nat} (h : i < a.length) : (a ++ b).getD i d = a.getD i d := by simp [List.getD, List.getElem?_append_left h]
theorem putL_len (k : Nat) : ∀ n, (putL n k).length = k := by
  induction k with
  | zero => intro n; rfl
  | succ k ih => intro n; simp [putL, ih]
theorem putL_lt (k : Nat) : ∀ n, ∀ x ∈ putL n k, x < 256 := by
  induction k with
  | zero => intro n x h; cases h
  | succ k ih =>
    intro n x h
    simp only [putL, List.mem_append, List.mem_singleton] at h
    rcases h with h | rfl
    · exact ih _ _ h
    · omega
theorem getL_snoc (l : List Nat) (x : Nat) : getL (l ++ [x]) = 256 * getL l + x := by simp [getL]
theorem get_put (k : Nat) : ∀ n, getL (putL n k) = n % 256 ^ k := by
  induction k with
  | zero => intro n; simp [putL, getL, Nat.mod_one]
  | succ k ih =>
    intro n
    rw [putL, getL_snoc, ih, Nat.pow_succ, Nat.mul_comm (256 ^ k) 256, Nat.mod_mul]
    omega
theorem getL_lt (l : List Nat) (h : ∀ x ∈ l, x < 256) : getL l < 256 ^ l.length := by
  suffices ∀ k, ∀ l : List Nat, l.length = k → (∀ x ∈ l, x < 256) → getL l < 256 ^ k from this _ l rfl h
  intro k
  induction k with
  | zero => intro l hl _; obtain rfl := List.eq_nil_of_length_eq_zero hl; simp [getL]
  | succ k ih =>
    intro l hl h
    obtain ⟨m, x, rfl⟩ : ∃ m x, l = m ++ [x] := ⟨l.dropLast, l.getLast (by intro e; simp [e] at hl), (List.dropLast_concat_getLast _).symm⟩
    have := ih m (by simpa using hl) (fun y hy => h y (by simp [hy]))
    have hx := h x (by simp)
    rw [getL_snoc, Nat.pow_succ]; omega
theorem put_get (k : Nat) : ∀ l : List Nat, l.length = k → (∀ x ∈ l, x < 256) → putL (getL l) k = l := by
  induction k with
  | zero => intro l hl _; rw [List.eq_nil_of_length_eq_zero hl]; rfl
  | succ k ih =>
    intro l hl h
    obtain ⟨m, x, rfl⟩ : ∃ m x, l = m ++ [x] := ⟨l.dropLast, l.getLast (by intro e; simp [e] at hl), (List.dropLast_concat_getLast _).symm⟩
    have hx := h x (by simp)
    have hm := ih m (by simpa using hl) (fun y hy => h y (by simp [hy]))
    rw [getL_snoc, putL, show (256 * getL m + x) / 256 = getL m by omega, show (256 * getL m + x) % 256 = x by omega, hm]
theorem putL_inj {k n m : Nat} (hn : n < 256 ^ k) (hm : m < 256 ^ k) (h : putL n k = putL m k) : n = m := by
  have := congrArg getL h
  rwa [get_put, get_put, Nat.mod_eq_of_lt hn, Nat.mod_eq_of_lt hm] at this
/-- The byte at a place. -/
theorem putL_get (k : Nat) : ∀ n i, i < k → (putL n k).getD i 0 = n / 256 ^ (k - 1 - i) % 256 := by
  induction k with
  | zero => intro n i h; omega
  | succ k ih =>
    intro n i h
    rw [putL]
    by_cases e : i < k
    · rw [getD_left (by rw [putL_len]; exact e), ih _ _ e, Nat.div_div_eq_div_mul, show k + 1 - 1 - i = (k - 1 - i) + 1 by omega, Nat.pow_succ, Nat.mul_comm]
    · obtain rfl : i = k := by omega
      simp [List.getD, List.getElem?_append_right, putL_len]

/-! ### the order of bytes -/
def belowL : List Nat → List Nat → Bool
  | x :: a, y :: b => if x = y then belowL a b else decide (x < y)
  | _, _ => false
theorem belowL_self (a : List Nat) : belowL a a = false := by
  induction a with
  | nil => rfl
  | cons x a ih => simp [belowL, ih]
theorem foldl_base (l : List Nat) : ∀ a, l.foldl (fun a x => 256 * a + x) a = 256 ^ l.length * a + getL l := by
  induction l with
  | nil => intro a; simp [getL]
  | cons x l ih =>
    intro a
    have h0 : getL (x :: l) = 256 ^ l.length * (256 * 0 + x) + getL l := ih (256 * 0 + x)
    rw [List.foldl_cons, ih, List.length_cons, h0]
    simp only [Nat.mul_zero, Nat.zero_add, Nat.pow_succ, Nat.mul_add, Nat.mul_assoc]
    omega
theorem getL_cons (x : Nat) (l : List Nat) : getL (x :: l) = 256 ^ l.length * x + getL l := by
  rw [getL, List.foldl_cons, foldl_base]; simp
theorem below_get : ∀ (a b : List Nat), a.length = b.length → (∀ x ∈ a, x < 256) → (∀ x ∈ b, x < 256) → belowL a b = decide (getL a < getL b)
  | [], [], _, _, _ => by simp [belowL, getL]
  | x :: a, y :: b, hl, ha, hb => by
    have hl' : a.length = b.length := by simpa using hl
    have la := getL_lt a (fun z hz => ha z (by simp [hz]))
    have lb := getL_lt b (fun z hz => hb z (by simp [hz]))
    rw [belowL, getL_cons, getL_cons, hl']
    rw [hl'] at la
    by_cases e : x = y
    · subst e
      rw [if_pos rfl, below_get a b hl' (fun z hz => ha z (by simp [hz])) (fun z hz => hb z (by simp [hz]))]
      congr 1
      rw [eq_iff_iff]; omega
    · rw [if_neg e]
      congr 1
      rw [eq_iff_iff]
      rcases Nat.lt_or_gt_of_ne e with h | h
      · have : 256 ^ b.length * (x + 1) ≤ 256 ^ b.length * y := Nat.mul_le_mul_left _ h
        rw [Nat.mul_add] at this
        constructor
        · intro; omega
        · intro; exact h
      · have : 256 ^ b.length * (y + 1) ≤ 256 ^ b.length * x := Nat.mul_le_mul_left _ h
        rw [Nat.mul_add] at this
        constructor
        · intro; omega
        · intro; omega

/-! ### decimal texts -/
def decF : Nat → Nat → List Nat
  | 0, _ => []
  | f + 1, n => if n < 10 then [48 + n] else decF f (n / 10) ++ [48 + n % 10]
def decL (n : Nat) : List Nat := decF 20 n
theorem decF_more : ∀ (f n : Nat), 0 < f → n < 10 ^ f → decF (f + 1) n = decF f n
  | 0, _, h, _ => absurd h (by omega)
  | f + 1, n, _, h => by
    rw [decF]
    conv => rhs; rw [decF]
    by_cases e : n < 10
    · rw [if_pos e, if_pos e]
    · rw [if_neg e, if_neg e]
      have hf : 0 < f := by
        rcases Nat.eq_zero_or_pos f with rfl | hf
        · simp at h; omega
        · exact hf
      rw [decF_more f (n / 10) hf (by rw [Nat.pow_succ] at h; omega)]
theorem decL_step {n : Nat} (h : n < 10 ^ 20) : decL n = if n < 10 then [48 + n] else decL (n / 10) ++ [48 + n % 10] := by
  unfold decL
  rw [decF]
  split
  · rfl
  · rw [decF_more 19 (n / 10) (by omega) (by rw [show (10 : Nat) ^ 20 = 10 ^ 19 * 10 from rfl] at h; omega)]

/-- The number of a row of digits. -/
def numL (l : List Nat) : Nat := l.foldl (fun a x => 10 * a + (x - 48)) 0
def digitB (x : Nat) : Bool := decide (48 ≤ x ∧ x ≤ 57)
theorem numL_snoc (l : List Nat) (x : Nat) : numL (l ++ [x]) = 10 * numL l + (x - 48) := by simp [numL]
theorem numL_base (l : List Nat) : ∀ a, l.foldl (fun a x => 10 * a + (x - 48)) a = 10 ^ l.length * a + numL l := by
  induction l with
  | nil => intro a; simp [numL]
  | cons x l ih =>
    intro a
    have h0 : numL (x :: l) = 10 ^ l.length * (10 * 0 + (x - 48)) + numL l := ih (10 * 0 + (x - 48))
    rw [List.foldl_cons, ih, List.length_cons, h0]
    simp only [Nat.mul_zero, Nat.zero_add, Nat.pow_succ, Nat.mul_add, Nat.mul_assoc]
    omega
theorem numL_cons (x : Nat) (l : List Nat) : numL (x :: l) = 10 ^ l.length * (x - 48) + numL l := by
  rw [numL, List.foldl_cons, numL_base]; simp
theorem numL_lt : ∀ (l : List Nat), (∀ x ∈ l, digitB x = true) → numL l < 10 ^ l.length
  | [], _ => by simp [numL]
  | x :: l, h => by
    have hx := h x (by simp)
    simp only [digitB, decide_eq_true_eq] at hx
    have := numL_lt l (fun y hy => h y (by simp [hy]))
    rw [numL_cons, List.length_cons, Nat.pow_succ]
    have h1 : 10 ^ l.length * (x - 48) ≤ 10 ^ l.length * 9 := Nat.mul_le_mul_left _ (by omega)
    omega

/-- Is it a number's text? -/
def textB (l : List Nat) : Bool := decide (0 < l.length) && !(decide (1 < l.length) && decide (l.getD 0 0 = 48)) && l.all digitB && decide (numL l < 18446744073709551616)
def parseL (l : List Nat) : Nat := if textB l then numL l else 0

theorem decL_digits {n : Nat} (_h : n < 10 ^ 20) : ∀ x ∈ decL n, digitB x = true := by
  unfold decL
  generalize 20 = f
  clear _h
  induction f generalizing n with
  | zero => intro x h; cases h
  | succ f ih =>
    intro x hx
    rw [decF] at hx
    split at hx
    · simp only [List.mem_singleton] at hx; subst hx; simp only [digitB, decide_eq_true_eq]; omega
    · simp only [List.mem_append, List.mem_singleton] at hx
      rcases hx with hx | rfl
      · exact ih _ hx
      · simp only [digitB, decide_eq_true_eq]; omega
theorem decF_num : ∀ (f n : Nat), 0 < f → n < 10 ^ f → numL (decF f n) = n ∧ 0 < (decF f n).length ∧ (1 < (decF f n).length → (decF f n).getD 0 0 ≠ 48) ∧ (10 ≤ n → 1 < (decF f n).length) ∧ (0 < n → (decF f n).getD 0 0 ≠ 48)
  | 0, _, h, _ => absurd h (by omega)
  | f + 1, n, _, h => by
    rw [decF]
    split
    · rename_i e
      refine ⟨by simp [numL], by simp, by simp, by omega, by simp; omega⟩
    · rename_i e
      have hf : 0 < f := by
        rcases Nat.eq_zero_or_pos f with rfl | hf
        · simp at h; omega
        · exact hf
      obtain ⟨h1, h2, h3, h4, h5⟩ := decF_num f (n / 10) hf (by rw [Nat.pow_succ] at h; omega)
      refine ⟨by rw [numL_snoc, h1]; omega, by simp, fun _ => ?_, fun _ => by simp; omega, fun _ => ?_⟩
      all_goals
        rw [getD_left h2]
        exact h5 (by omega)
theorem dec_text {n : Nat} (h : n < 18446744073709551616) : textB (decL n) = true ∧ parseL (decL n) = n := by
  have h20 : n < 10 ^ 20 := Nat.lt_trans h (by decide)
  obtain ⟨h1, h2, h3, _, _⟩ := decF_num 20 n (by omega) h20
  have hd := decL_digits h20
  have : textB (decL n) = true := by
    unfold textB
    simp only [Bool.and_eq_true, decide_eq_true_eq, Bool.not_eq_true', Bool.and_eq_false_iff, decide_eq_false_iff_not, List.all_eq_true]
    refine ⟨⟨⟨h2, ?_⟩, hd⟩, by rw [show numL (decL n) = n from h1]; exact h⟩
    by_cases hl : 1 < (decL n).length
    · exact .inr (h3 hl)
    · exact .inl hl
  exact ⟨this, by unfold parseL; rw [if_pos this]; exact h1⟩

/-- The digits of the number of a row of digits, none ahead that is 0, are that row. -/
theorem dec_num : ∀ (k : Nat) (l : List Nat), l.length = k + 1 → k < 20 → (∀ x ∈ l, digitB x = true) → (1 < l.length → l.getD 0 0 ≠ 48) → decL (numL l) = l := by
  intro k
  induction k with
  | zero =>
    intro l hl _ hd _
    match l, hl with
    | [x], _ =>
      have hx := hd x (by simp)
      simp only [digitB, decide_eq_true_eq] at hx
      rw [show numL [x] = x - 48 by simp [numL], decL_step (by omega), if_pos (by omega)]
      congr 1; omega
  | succ k ih =>
    intro l hl hk hd h0
    obtain ⟨m, x, rfl⟩ : ∃ m x, l = m ++ [x] := ⟨l.dropLast, l.getLast (by intro e; simp [e] at hl), (List.dropLast_concat_getLast _).symm⟩
    have hm : m.length = k + 1 := by simpa using hl
    have hx := hd x (by simp)
    simp only [digitB, decide_eq_true_eq] at hx
    have hdm : ∀ y ∈ m, digitB y = true := fun y hy => hd y (by simp [hy])
    have hlead : m.getD 0 0 ≠ 48 := by
      have := h0 (by simp [hm])
      rwa [getD_left (by omega)] at this
    have hb := numL_lt _ hd
    have hpos : 0 < numL m := by
      match m, hm with
      | y :: m', hm' =>
        have hy := hdm y (by simp)
        simp only [digitB, decide_eq_true_eq] at hy
        simp at hlead
        rw [numL_cons]
        have := Nat.mul_pos (Nat.pow_pos (n := m'.length) (show 0 < 10 by omega)) (show 0 < y - 48 by omega)
        omega
    have hlt : numL (m ++ [x]) < 10 ^ 20 := Nat.lt_of_lt_of_le hb (Nat.pow_le_pow_right (by omega) (by simp [hm]; omega))
    rw [decL_step hlt, numL_snoc, if_neg (by omega), show (10 * numL m + (x - 48)) / 10 = numL m by omega, show 48 + (10 * numL m + (x - 48)) % 10 = x by omega,
      ih m hm (by omega) hdm (fun _ => hlead)]
theorem lead_big {l : List Nat} (hd : ∀ x ∈ l, digitB x = true) (h1 : 1 < l.length) (h0 : l.getD 0 0 ≠ 48) : 10 ^ (l.length - 1) ≤ numL l := by
  match l, h1 with
  | y :: m, _ =>
    have hy := hd y (by simp)
    simp only [digitB, decide_eq_true_eq] at hy
    simp at h0
    rw [numL_cons]
    have : 10 ^ m.length * 1 ≤ 10 ^ m.length * (y - 48) := Nat.mul_le_mul_left _ (by omega)
    simp only [List.length_cons, Nat.add_sub_cancel]
    omega
theorem text_parts {l : List Nat} (h : textB l = true) : 0 < l.length ∧ (1 < l.length → l.getD 0 0 ≠ 48) ∧ (∀ x ∈ l, digitB x = true) ∧ numL l < 18446744073709551616 := by
  unfold textB at h
  simp only [Bool.and_eq_true, decide_eq_true_eq, Bool.not_eq_true', Bool.and_eq_false_iff, decide_eq_false_iff_not, List.all_eq_true] at h
  obtain ⟨⟨⟨h1, h2⟩, h3⟩, h4⟩ := h
  exact ⟨h1, fun hl => h2.resolve_left (fun h => h hl), h3, h4⟩
theorem text_len {l : List Nat} (h : textB l = true) : l.length ≤ 20 := by
  obtain ⟨h1, h2, h3, h4⟩ := text_parts h
  rcases Nat.lt_or_ge 20 l.length with hl | hl
  · have := lead_big h3 (by omega) (h2 (by omega))
    have h20 : 10 ^ 20 ≤ 10 ^ (l.length - 1) := Nat.pow_le_pow_right (by omega) (by omega)
    have : (10 : Nat) ^ 20 = 100000000000000000000 := by decide
    omega
  · exact hl
theorem parse_dec {l : List Nat} (h : textB l = true) : decL (parseL l) = l := by
  obtain ⟨h1, h2, h3, h4⟩ := text_parts h
  have := text_len h
  unfold parseL
  rw [if_pos h]
  exact dec_num (l.length - 1) l (by omega) (by omega) h3 h2
end Go.Proofs.Ytjfgjlklbepnjaa
