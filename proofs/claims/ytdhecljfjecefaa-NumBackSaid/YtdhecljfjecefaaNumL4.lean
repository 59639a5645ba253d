/- The layer's statements walked: bytes read, and what is written read as it was. No condition. -/
import Derived.Test.YtdhecljfjecefaaNumL3
namespace Go.Proofs.Ytdhecljfjecefaa
open Go.RowKit Go.PlainAid
set_option linter.unusedSimpArgs false
set_option linter.unusedVariables false
set_option maxRecDepth 2000

/-- What the walk is told of a slice of integers that came in: it is nil, or it leads to a row of so many cells, these numbers, each fitting its kind. -/
def IsRow (k : IntKind) (w : World) (a : Option Addr) (len cap : Nat) (zs : List Int) : Prop :=
  (a = none ∧ len = 0 ∧ cap = 0 ∧ zs = []) ∨
  ∃ x, a = some x ∧ len ≤ cap ∧ cap ≤ maxLen ∧ zs.length = cap ∧ (∀ i, i < zs.length → w.cell? (x.add i) = some (.int k (zs.getD i 0))) ∧ ∀ n ∈ zs, (Lit.int k n).wf = true

theorem u8_lim {a : Int} (h : (Lit.int .u8 a).wf = true) : 0 ≤ a ∧ a ≤ 255 := by
  simp only [Lit.wf, Bool.and_eq_true, decide_eq_true_eq] at h
  exact h
theorem row_bytes {w : World} {a : Option Addr} {len cap : Nat} {zs : List Int} (h : IsRow .u8 w a len cap zs) (j : Nat) : 0 ≤ zs.getD j 0 ∧ zs.getD j 0 ≤ 255 := by
  rcases h with ⟨_, _, _, rfl⟩ | ⟨x, _, _, _, _, _, hw⟩
  · simp
  · by_cases hj : j < zs.length
    · have := u8_lim (hw (zs.getD j 0) (by simp [List.getD, hj]))
      exact this
    · have : zs.getD j 0 = 0 := by simp [List.getD, List.getElem?_eq_none (Nat.le_of_not_lt hj)]
      rw [this]; exact ⟨by omega, by omega⟩
theorem row_len {w : World} {k : IntKind} {a : Option Addr} {len cap : Nat} {zs : List Int} (h : IsRow k w a len cap zs) : len ≤ 9223372036854775807 ∧ len ≤ zs.length := by
  rcases h with ⟨_, rfl, _, rfl⟩ | ⟨x, _, h1, h2, h3, _, _⟩
  · exact ⟨by omega, Nat.le_refl _⟩
  · have := max_lim h2; omega
/-- A row of bytes as a list of numbers. -/
def natL (zs : List Int) (n : Nat) : List Nat := (List.range n).map fun j => (zs.getD j 0).toNat
theorem natL_len (zs : List Int) (n : Nat) : (natL zs n).length = n := by simp [natL]
theorem natL_at {zs : List Int} {n j : Nat} (hz : ∀ j, 0 ≤ zs.getD j 0 ∧ zs.getD j 0 ≤ 255) (h : j < n) : atI (natL zs n) j = zs.getD j 0 := by
  have := hz j
  unfold atI natL
  simp [List.getD, h]
  simp [List.getD] at this
  omega
theorem natL_small {zs : List Int} {n : Nat} (hz : ∀ j, 0 ≤ zs.getD j 0 ∧ zs.getD j 0 ≤ 255) : ∀ x ∈ natL zs n, x < 256 := by
  intro x hx
  simp only [natL, List.mem_map] at hx
  obtain ⟨j, _, rfl⟩ := hx
  have := hz j
  omega

theorem row_reads {w : World} {k : IntKind} {A : Option Addr} {len cap : Nat} {zs : List Int} (h : IsRow k w A len cap zs) : Reads k w w.heap.size A len (fun j => zs.getD j 0) := fun hp => by
  rcases h with ⟨_, rfl, _, _⟩ | ⟨x, rfl, h1, h2, h3, hc, _⟩
  · omega
  · have h0 := hc 0 (by omega)
    obtain ⟨b, o, sp⟩ := x
    have hsp : sp = none := by simpa [Addr.add] using World.cell?_spot h0
    subst hsp
    refine ⟨b, o, rfl, ?_, fun j hj => ?_⟩
    · have := World.block_lt_of_cell? _ _ h0
      simpa [Addr.add] using this
    · have := hc j (by omega)
      rwa [Addr.add_lit] at this

set_option maxHeartbeats 4000000 in
theorem gets_walk (A : Option Addr) (n c : Nat) (zs : List Int) (w : World) (h : IsRow .u8 w A n c zs) :
    Calls Try.prog 7 #[.slice A n c] w fun e w' => e = .returned (.bool true) ∧ Below w.heap.size w w' := by
  have hz := row_bytes h
  obtain ⟨hn, hl⟩ := row_len h
  have hr : Reads .u8 w w.heap.size A n (fun j => zs.getD j 0) := row_reads h
  clear h
  by_cases h : n < 1 ∨ 8 < n
  · have P1 := Lib.hid (fun X : World => get_none A n c X hn h)
    rcases h with h | h
    all_goals
      go_enter Try.func7, Try.ntmps7
      go_wp2_with (first
        | (go_at_call 20; refine (P1.out _).mono ?_; rintro e w' ⟨rfl, hb⟩; obtain ⟨X1, rfl, hl1, hm1⟩ := later (w.heap.size) hb (by first | exact Nat.le_refl _ | go_size); clear hb; (try simp only [World.size_alloc, World.size_setCell, World.size_drew] at hm1))
        | (go_at_call 14; refine (known_any _).mono ?_; rintro e w' ⟨rfl, hb⟩; obtain ⟨X3, rfl, hl3, hm3⟩ := later (w.heap.size) hb (by first | exact Nat.le_refl _ | go_size); clear hb; (try simp only [World.size_alloc, World.size_setCell, World.size_drew] at hm3)))
      all_goals
        go_ret
        exact ⟨rfl, by repeat' (first | (with_reducible exact Below.refl _ _) | (with_reducible assumption) | (with_reducible refine Later.step ?_ ?_ _) | (with_reducible refine Below.alloc ?_ ?_ _) | (with_reducible refine Below.drew ?_) | (with_reducible refine bel_drewN ?_ _) | (with_reducible refine bel_grown ?_ (by assumption) ?_ ?_) | (with_reducible refine Below.setCell ?_ ?_ _) | go_size)⟩
  · have h1 : 1 ≤ n := by omega
    have h8 : n ≤ 8 := by omega
    have hlt : getL (natL zs n) < 256 ^ n := by have := getL_lt (natL zs n) (natL_small hz); rwa [natL_len] at this
    have hlt8 : getL (natL zs n) < 18446744073709551616 := by
      have h2 : (256 : Nat) ^ n ≤ 256 ^ 8 := Nat.pow_le_pow_right (by omega) h8
      have : (256 : Nat) ^ 8 = 18446744073709551616 := by decide
      omega
    have hg : getF (fun j => zs.getD j 0) n = ((getL (natL zs n) : Nat) : Int) := by
      have e := getF_list (natL zs n) n (by rw [natL_len]; exact Nat.le_refl _)
      rw [show (natL zs n).take n = natL zs n by conv => lhs; arg 1; rw [← natL_len zs n]
                                                 exact List.take_length] at e
      rw [← e]
      exact getF_congr fun j hj => (natL_at hz hj).symm
    have hback : ∀ j, j < n → zs.getD j 0 = putI (getL (natL zs n)) n j := fun j hj => by
      rw [putI_list hj, put_get n (natL zs n) (natL_len _ _) (natL_small hz), natL_at hz hj]
    obtain ⟨v, hv⟩ : ∃ v, getL (natL zs n) = v := ⟨_, rfl⟩
    rw [hv] at hlt hlt8 hg hback
    have p1 : ∀ X : World, Below w.heap.size w X → Calls Try.prog 20 #[.slice A n c] X fun e w' => e = .returned (.tuple #[.int .u64 v, .int .i64 0]) ∧ Below X.heap.size X w' := fun X hX => by
      have := get_any A n c _ X ((hr.keep hX).more hX.size) hz hn h1 h8
      rwa [hg] at this
    have p2 := fun X : World => put_any v n X (by omega) (by omega) h1 h8 (fun _ => put_fit hlt)
    have p3 : ∀ X : World, Below w.heap.size w X → Calls Try.prog 21 #[.slice A n c] X fun e w' => e = .returned (.int .u64 v) ∧ Below X.heap.size X w' := fun X hX => by
      have := rget_any A n c _ X ((hr.keep hX).more hX.size) hz h8
      rwa [hg] at this
    have P1 := Lib.hid p1
    have P2 := Lib.hid p2
    have P3 := Lib.hid p3
    have HR := Lib.hid hr
    have HS := Lib.hid (sameF_true (n := n) (m := n) rfl hback)
    clear p1 p2 p3 hr hback hg hlt hv hz hl h
    go_enter Try.func7, Try.ntmps7
    go_wp2_with fail
    refine (P1.out _ (Below.refl _ _)).mono ?_
    rintro e w' ⟨rfl, hb⟩; obtain ⟨X1, rfl, hl1, hm1⟩ := later (w.heap.size) hb (by first | exact Nat.le_refl _ | go_size); clear hb; (try simp only [World.size_alloc, World.size_setCell, World.size_drew] at hm1)
    go_wp2_with fail
    refine (P2.out _).mono ?_
    rintro e wb ⟨B, d, rfl, hown2, hbel2⟩
    have HO := Lib.hid (Reads.own hown2)
    have s2 := hbel2.size
    have hb2 : Below w.heap.size w wb := X1.is.trans (hbel2.mono hl1)
    have s3 := hb2.size
    clear hown2 hbel2
    have HB := Lib.hid hb2
    have g2 : ∀ X : World, Below wb.heap.size wb X → Calls Try.prog 17 #[.slice A n c, .slice B n d] X fun e w' => e = .returned (.bool true) ∧ Below X.heap.size X w' := fun X hX => by
      have := same_any A B n n c d _ _ X (((HR.out.keep HB.out).keep (hX.mono s3)).more (Nat.le_trans s3 hX.size)) ((HO.out.keep hX).more hX.size) (by omega) (by omega)
      rwa [HS.out] at this
    have G2 := Lib.hid g2
    clear g2
    go_wp2_with (first
      | (go_at_call 21; refine (P3.out _ (by repeat' (first | (with_reducible exact Below.refl _ _) | (with_reducible assumption) | (with_reducible refine Later.step ?_ ?_ _) | (with_reducible refine Below.alloc ?_ ?_ _) | (with_reducible refine Below.drew ?_) | (with_reducible refine bel_drewN ?_ _) | (with_reducible refine bel_grown ?_ (by assumption) ?_ ?_) | (with_reducible refine Below.setCell ?_ ?_ _) | go_size))).mono ?_; rintro e w' ⟨rfl, hb⟩; obtain ⟨X4, rfl, hl4, hm4⟩ := later (wb.heap.size) hb (by first | exact Nat.le_refl _ | go_size); clear hb; (try simp only [World.size_alloc, World.size_setCell, World.size_drew] at hm4))
      | (go_at_call 17; refine (G2.out _ (by repeat' (first | (with_reducible exact Below.refl _ _) | (with_reducible assumption) | (with_reducible refine Later.step ?_ ?_ _) | (with_reducible refine Below.alloc ?_ ?_ _) | (with_reducible refine Below.drew ?_) | (with_reducible refine bel_drewN ?_ _) | (with_reducible refine bel_grown ?_ (by assumption) ?_ ?_) | (with_reducible refine Below.setCell ?_ ?_ _) | go_size))).mono ?_; rintro e w' ⟨rfl, hb⟩; obtain ⟨X2, rfl, hl2, hm2⟩ := later (wb.heap.size) hb (by first | exact Nat.le_refl _ | go_size); clear hb; (try simp only [World.size_alloc, World.size_setCell, World.size_drew] at hm2))
      | (go_at_call 14; refine (known_any _).mono ?_; rintro e w' ⟨rfl, hb⟩; obtain ⟨X3, rfl, hl3, hm3⟩ := later (wb.heap.size) hb (by first | exact Nat.le_refl _ | go_size); clear hb; (try simp only [World.size_alloc, World.size_setCell, World.size_drew] at hm3)))
    go_ret
    exact ⟨rfl, by repeat' (first | (with_reducible exact Below.refl _ _) | (with_reducible assumption) | (with_reducible refine Later.step ?_ ?_ _) | (with_reducible refine Below.alloc ?_ ?_ _) | (with_reducible refine Below.drew ?_) | (with_reducible refine bel_drewN ?_ _) | (with_reducible refine bel_grown ?_ (by assumption) ?_ ?_) | (with_reducible refine Below.setCell ?_ ?_ _) | go_size)⟩
theorem dec_small (n : Nat) (h : n < 18446744073709551616) : Small (decL n) := fun x hx => by
  have := decL_digits (Nat.lt_trans h (by decide)) x hx
  simp only [digitB, decide_eq_true_eq] at this
  omega
theorem hex_small (n : Nat) : Small (hexF 16 n) := fun x hx => by
  have := hexF_all 16 n x hx
  simp only [hexB, decide_eq_true_eq] at this
  omega
set_option maxHeartbeats 4000000 in
theorem back_walk (a : Int) (s : ByteArray) (w : World) (ha : (Lit.int .u64 a).wf = true) (hs : s.size ≤ maxLen) :
    Calls Try.prog 8 #[.int .u64 a, .string s] w fun e w' => e = .returned (.bool true) ∧ Below w.heap.size w w' := by
  obtain ⟨N, rfl⟩ := Int.eq_ofNat_of_zero_le (u64_lim ha).1
  have hN : N < 18446744073709551616 := by have := (u64_lim ha).2; omega
  have hs' := max_lim hs
  obtain ⟨t1, t2⟩ := dec_text hN
  have p1 := fun X : World => text_any N X hN
  have p2 := fun X : World => parse_any (txt (decL N)) X (by rw [txt_size]; have := decF_len 20 N; unfold decL; omega)
  rw [bl_txt (dec_small N hN), t2, (parse_yes t1).2] at p2
  have p3 := fun X : World => hex_any N X hN
  have p4 := fun X : World => readhex_any (txt (hexF 16 N)) X (by rw [txt_size, hexF_len]; omega)
  rw [bl_txt (hex_small N), (hexV_hexF hN).1, (hexV_hexF hN).2] at p4
  obtain ⟨t, ht⟩ : ∃ t, txt (decL N) = t := ⟨_, rfl⟩
  obtain ⟨u, hu⟩ : ∃ u, txt (hexF 16 N) = u := ⟨_, rfl⟩
  rw [ht] at p1 p2
  rw [hu] at p3 p4
  have P1 := Lib.hid p1
  have P2 := Lib.hid p2
  have P3 := Lib.hid p3
  have P4 := Lib.hid p4
  have p5 := fun X : World => parse_any s X hs'
  have p6 := fun X : World => readhex_any s X hs'
  have q5 : textB (bl s) = true → ∀ X : World, Calls Try.prog 12 #[.int .u64 (parseL (bl s))] X fun e w' => e = .returned (.string s) ∧ Below X.heap.size X w' := fun h X => by
    have hlt : parseL (bl s) < 18446744073709551616 := by
      rw [(parse_yes h).1]; exact (text_parts h).2.2.2
    have := text_any _ X hlt
    rwa [parse_dec h, txt_bl] at this
  have q6 : hexOk (bl s) = true → ∀ X : World, Calls Try.prog 23 #[.int .u64 (hexV (bl s))] X fun e w' => e = .returned (.string s) ∧ Below X.heap.size X w' := fun h X => by
    obtain ⟨h1, h2⟩ := hexOk_iff.1 h
    have hall : ∀ x ∈ bl s, hexB x = true := by
      intro x hx
      obtain ⟨j, hj, rfl⟩ := List.getElem_of_mem hx
      have := h2 j hj
      simpa [List.getD, hj] using this
    have hv := readX_lt (bl s) hall
    rw [h1] at hv
    have hv' : readX (bl s) < 18446744073709551616 := by have : (16 : Nat) ^ 16 = 18446744073709551616 := by decide
                                                         omega
    rw [(hex_yes h).1]
    have := hex_any _ X hv'
    have e := hex_read (bl s) hall
    rw [h1] at e
    rwa [e, txt_bl] at this
  clear p1 p2 p3 p4 ht hu t1 t2 ha hs
  by_cases hx : textB (bl s) = true
  · have q5' := q5 hx
    rw [(parse_yes hx).2] at p5
    by_cases hy : hexOk (bl s) = true
    · have q6' := q6 hy
      rw [(hex_yes hy).2] at p6
      obtain ⟨c, hc⟩ : ∃ c, parseL (bl s) = c := ⟨_, rfl⟩
      obtain ⟨d, hd⟩ : ∃ d, hexV (bl s) = d := ⟨_, rfl⟩
      rw [hc] at p5 q5'
      rw [hd] at p6 q6'
      have P5 := Lib.hid p5
      have P6 := Lib.hid p6
      have Q5 := Lib.hid q5'
      have Q6 := Lib.hid q6'
      clear p5 p6 q5 q6 q5' q6' hx hy hc hd
      go_enter Try.func8, Try.ntmps8
      go_wp2_with (first
        | (go_at_call 12; with_reducible refine (P1.out _).mono ?_; rintro e w' ⟨rfl, hb⟩; obtain ⟨X1, rfl, hl1, hm1⟩ := later (w.heap.size) hb (by first | exact Nat.le_refl _ | go_size); clear hb; (try simp only [World.size_alloc, World.size_setCell, World.size_drew] at hm1))
        | (go_at_call 10; with_reducible refine (P2.out _).mono ?_; rintro e w' ⟨rfl, hb⟩; obtain ⟨X2, rfl, hl2, hm2⟩ := later (w.heap.size) hb (by first | exact Nat.le_refl _ | go_size); clear hb; (try simp only [World.size_alloc, World.size_setCell, World.size_drew] at hm2))
        | (go_at_call 23; with_reducible refine (P3.out _).mono ?_; rintro e w' ⟨rfl, hb⟩; obtain ⟨X3, rfl, hl3, hm3⟩ := later (w.heap.size) hb (by first | exact Nat.le_refl _ | go_size); clear hb; (try simp only [World.size_alloc, World.size_setCell, World.size_drew] at hm3))
        | (go_at_call 22; with_reducible refine (P4.out _).mono ?_; rintro e w' ⟨rfl, hb⟩; obtain ⟨X4, rfl, hl4, hm4⟩ := later (w.heap.size) hb (by first | exact Nat.le_refl _ | go_size); clear hb; (try simp only [World.size_alloc, World.size_setCell, World.size_drew] at hm4))
        | (go_at_call 10; with_reducible refine (P5.out _).mono ?_; rintro e w' ⟨rfl, hb⟩; obtain ⟨X5, rfl, hl5, hm5⟩ := later (w.heap.size) hb (by first | exact Nat.le_refl _ | go_size); clear hb; (try simp only [World.size_alloc, World.size_setCell, World.size_drew] at hm5))
        | (go_at_call 22; with_reducible refine (P6.out _).mono ?_; rintro e w' ⟨rfl, hb⟩; obtain ⟨X6, rfl, hl6, hm6⟩ := later (w.heap.size) hb (by first | exact Nat.le_refl _ | go_size); clear hb; (try simp only [World.size_alloc, World.size_setCell, World.size_drew] at hm6))
        | (go_at_call 12; with_reducible refine (Q5.out _).mono ?_; rintro e w' ⟨rfl, hb⟩; obtain ⟨X7, rfl, hl7, hm7⟩ := later (w.heap.size) hb (by first | exact Nat.le_refl _ | go_size); clear hb; (try simp only [World.size_alloc, World.size_setCell, World.size_drew] at hm7))
        | (go_at_call 23; with_reducible refine (Q6.out _).mono ?_; rintro e w' ⟨rfl, hb⟩; obtain ⟨X8, rfl, hl8, hm8⟩ := later (w.heap.size) hb (by first | exact Nat.le_refl _ | go_size); clear hb; (try simp only [World.size_alloc, World.size_setCell, World.size_drew] at hm8))
        | (go_at_call 14; refine (known_any _).mono ?_; rintro e w' ⟨rfl, hb⟩; obtain ⟨X9, rfl, hl9, hm9⟩ := later (w.heap.size) hb (by first | exact Nat.le_refl _ | go_size); clear hb; (try simp only [World.size_alloc, World.size_setCell, World.size_drew] at hm9)))
      go_ret
      exact ⟨rfl, by repeat' (first | (with_reducible exact Below.refl _ _) | (with_reducible assumption) | (with_reducible refine Later.step ?_ ?_ _) | (with_reducible refine Below.alloc ?_ ?_ _) | (with_reducible refine Below.drew ?_) | (with_reducible refine bel_drewN ?_ _) | (with_reducible refine bel_grown ?_ (by assumption) ?_ ?_) | (with_reducible refine Below.setCell ?_ ?_ _) | go_size)⟩
    · rw [(hex_no (by simpa using hy)).1, (hex_no (by simpa using hy)).2] at p6
      obtain ⟨c, hc⟩ : ∃ c, parseL (bl s) = c := ⟨_, rfl⟩
      rw [hc] at p5 q5'
      have P5 := Lib.hid p5
      have P6 := Lib.hid p6
      have Q5 := Lib.hid q5'
      have Q6 := Lib.hid trivial
      clear p5 p6 q5 q6 q5' hx hy hc
      go_enter Try.func8, Try.ntmps8
      go_wp2_with (first
        | (go_at_call 12; with_reducible refine (P1.out _).mono ?_; rintro e w' ⟨rfl, hb⟩; obtain ⟨X1, rfl, hl1, hm1⟩ := later (w.heap.size) hb (by first | exact Nat.le_refl _ | go_size); clear hb; (try simp only [World.size_alloc, World.size_setCell, World.size_drew] at hm1))
        | (go_at_call 10; with_reducible refine (P2.out _).mono ?_; rintro e w' ⟨rfl, hb⟩; obtain ⟨X2, rfl, hl2, hm2⟩ := later (w.heap.size) hb (by first | exact Nat.le_refl _ | go_size); clear hb; (try simp only [World.size_alloc, World.size_setCell, World.size_drew] at hm2))
        | (go_at_call 23; with_reducible refine (P3.out _).mono ?_; rintro e w' ⟨rfl, hb⟩; obtain ⟨X3, rfl, hl3, hm3⟩ := later (w.heap.size) hb (by first | exact Nat.le_refl _ | go_size); clear hb; (try simp only [World.size_alloc, World.size_setCell, World.size_drew] at hm3))
        | (go_at_call 22; with_reducible refine (P4.out _).mono ?_; rintro e w' ⟨rfl, hb⟩; obtain ⟨X4, rfl, hl4, hm4⟩ := later (w.heap.size) hb (by first | exact Nat.le_refl _ | go_size); clear hb; (try simp only [World.size_alloc, World.size_setCell, World.size_drew] at hm4))
        | (go_at_call 10; with_reducible refine (P5.out _).mono ?_; rintro e w' ⟨rfl, hb⟩; obtain ⟨X5, rfl, hl5, hm5⟩ := later (w.heap.size) hb (by first | exact Nat.le_refl _ | go_size); clear hb; (try simp only [World.size_alloc, World.size_setCell, World.size_drew] at hm5))
        | (go_at_call 22; with_reducible refine (P6.out _).mono ?_; rintro e w' ⟨rfl, hb⟩; obtain ⟨X6, rfl, hl6, hm6⟩ := later (w.heap.size) hb (by first | exact Nat.le_refl _ | go_size); clear hb; (try simp only [World.size_alloc, World.size_setCell, World.size_drew] at hm6))
        | (go_at_call 12; with_reducible refine (Q5.out _).mono ?_; rintro e w' ⟨rfl, hb⟩; obtain ⟨X7, rfl, hl7, hm7⟩ := later (w.heap.size) hb (by first | exact Nat.le_refl _ | go_size); clear hb; (try simp only [World.size_alloc, World.size_setCell, World.size_drew] at hm7))
        | (go_at_call 23; with_reducible refine (Q6.out _).mono ?_; rintro e w' ⟨rfl, hb⟩; obtain ⟨X8, rfl, hl8, hm8⟩ := later (w.heap.size) hb (by first | exact Nat.le_refl _ | go_size); clear hb; (try simp only [World.size_alloc, World.size_setCell, World.size_drew] at hm8))
        | (go_at_call 14; refine (known_any _).mono ?_; rintro e w' ⟨rfl, hb⟩; obtain ⟨X9, rfl, hl9, hm9⟩ := later (w.heap.size) hb (by first | exact Nat.le_refl _ | go_size); clear hb; (try simp only [World.size_alloc, World.size_setCell, World.size_drew] at hm9)))
      go_ret
      exact ⟨rfl, by repeat' (first | (with_reducible exact Below.refl _ _) | (with_reducible assumption) | (with_reducible refine Later.step ?_ ?_ _) | (with_reducible refine Below.alloc ?_ ?_ _) | (with_reducible refine Below.drew ?_) | (with_reducible refine bel_drewN ?_ _) | (with_reducible refine bel_grown ?_ (by assumption) ?_ ?_) | (with_reducible refine Below.setCell ?_ ?_ _) | go_size)⟩
  · rw [(parse_no (by simpa using hx)).1, (parse_no (by simpa using hx)).2] at p5
    by_cases hy : hexOk (bl s) = true
    · have q6' := q6 hy
      rw [(hex_yes hy).2] at p6
      obtain ⟨d, hd⟩ : ∃ d, hexV (bl s) = d := ⟨_, rfl⟩
      rw [hd] at p6 q6'
      have P5 := Lib.hid p5
      have P6 := Lib.hid p6
      have Q5 := Lib.hid trivial
      have Q6 := Lib.hid q6'
      clear p5 p6 q5 q6 q6' hx hy hd
      go_enter Try.func8, Try.ntmps8
      go_wp2_with (first
        | (go_at_call 12; with_reducible refine (P1.out _).mono ?_; rintro e w' ⟨rfl, hb⟩; obtain ⟨X1, rfl, hl1, hm1⟩ := later (w.heap.size) hb (by first | exact Nat.le_refl _ | go_size); clear hb; (try simp only [World.size_alloc, World.size_setCell, World.size_drew] at hm1))
        | (go_at_call 10; with_reducible refine (P2.out _).mono ?_; rintro e w' ⟨rfl, hb⟩; obtain ⟨X2, rfl, hl2, hm2⟩ := later (w.heap.size) hb (by first | exact Nat.le_refl _ | go_size); clear hb; (try simp only [World.size_alloc, World.size_setCell, World.size_drew] at hm2))
        | (go_at_call 23; with_reducible refine (P3.out _).mono ?_; rintro e w' ⟨rfl, hb⟩; obtain ⟨X3, rfl, hl3, hm3⟩ := later (w.heap.size) hb (by first | exact Nat.le_refl _ | go_size); clear hb; (try simp only [World.size_alloc, World.size_setCell, World.size_drew] at hm3))
        | (go_at_call 22; with_reducible refine (P4.out _).mono ?_; rintro e w' ⟨rfl, hb⟩; obtain ⟨X4, rfl, hl4, hm4⟩ := later (w.heap.size) hb (by first | exact Nat.le_refl _ | go_size); clear hb; (try simp only [World.size_alloc, World.size_setCell, World.size_drew] at hm4))
        | (go_at_call 10; with_reducible refine (P5.out _).mono ?_; rintro e w' ⟨rfl, hb⟩; obtain ⟨X5, rfl, hl5, hm5⟩ := later (w.heap.size) hb (by first | exact Nat.le_refl _ | go_size); clear hb; (try simp only [World.size_alloc, World.size_setCell, World.size_drew] at hm5))
        | (go_at_call 22; with_reducible refine (P6.out _).mono ?_; rintro e w' ⟨rfl, hb⟩; obtain ⟨X6, rfl, hl6, hm6⟩ := later (w.heap.size) hb (by first | exact Nat.le_refl _ | go_size); clear hb; (try simp only [World.size_alloc, World.size_setCell, World.size_drew] at hm6))
        | (go_at_call 12; with_reducible refine (Q5.out _).mono ?_; rintro e w' ⟨rfl, hb⟩; obtain ⟨X7, rfl, hl7, hm7⟩ := later (w.heap.size) hb (by first | exact Nat.le_refl _ | go_size); clear hb; (try simp only [World.size_alloc, World.size_setCell, World.size_drew] at hm7))
        | (go_at_call 23; with_reducible refine (Q6.out _).mono ?_; rintro e w' ⟨rfl, hb⟩; obtain ⟨X8, rfl, hl8, hm8⟩ := later (w.heap.size) hb (by first | exact Nat.le_refl _ | go_size); clear hb; (try simp only [World.size_alloc, World.size_setCell, World.size_drew] at hm8))
        | (go_at_call 14; refine (known_any _).mono ?_; rintro e w' ⟨rfl, hb⟩; obtain ⟨X9, rfl, hl9, hm9⟩ := later (w.heap.size) hb (by first | exact Nat.le_refl _ | go_size); clear hb; (try simp only [World.size_alloc, World.size_setCell, World.size_drew] at hm9)))
      go_ret
      exact ⟨rfl, by repeat' (first | (with_reducible exact Below.refl _ _) | (with_reducible assumption) | (with_reducible refine Later.step ?_ ?_ _) | (with_reducible refine Below.alloc ?_ ?_ _) | (with_reducible refine Below.drew ?_) | (with_reducible refine bel_drewN ?_ _) | (with_reducible refine bel_grown ?_ (by assumption) ?_ ?_) | (with_reducible refine Below.setCell ?_ ?_ _) | go_size)⟩
    · rw [(hex_no (by simpa using hy)).1, (hex_no (by simpa using hy)).2] at p6
      have P5 := Lib.hid p5
      have P6 := Lib.hid p6
      have Q5 := Lib.hid trivial
      have Q6 := Lib.hid trivial
      clear p5 p6 q5 q6 hx hy
      go_enter Try.func8, Try.ntmps8
      go_wp2_with (first
        | (go_at_call 12; with_reducible refine (P1.out _).mono ?_; rintro e w' ⟨rfl, hb⟩; obtain ⟨X1, rfl, hl1, hm1⟩ := later (w.heap.size) hb (by first | exact Nat.le_refl _ | go_size); clear hb; (try simp only [World.size_alloc, World.size_setCell, World.size_drew] at hm1))
        | (go_at_call 10; with_reducible refine (P2.out _).mono ?_; rintro e w' ⟨rfl, hb⟩; obtain ⟨X2, rfl, hl2, hm2⟩ := later (w.heap.size) hb (by first | exact Nat.le_refl _ | go_size); clear hb; (try simp only [World.size_alloc, World.size_setCell, World.size_drew] at hm2))
        | (go_at_call 23; with_reducible refine (P3.out _).mono ?_; rintro e w' ⟨rfl, hb⟩; obtain ⟨X3, rfl, hl3, hm3⟩ := later (w.heap.size) hb (by first | exact Nat.le_refl _ | go_size); clear hb; (try simp only [World.size_alloc, World.size_setCell, World.size_drew] at hm3))
        | (go_at_call 22; with_reducible refine (P4.out _).mono ?_; rintro e w' ⟨rfl, hb⟩; obtain ⟨X4, rfl, hl4, hm4⟩ := later (w.heap.size) hb (by first | exact Nat.le_refl _ | go_size); clear hb; (try simp only [World.size_alloc, World.size_setCell, World.size_drew] at hm4))
        | (go_at_call 10; with_reducible refine (P5.out _).mono ?_; rintro e w' ⟨rfl, hb⟩; obtain ⟨X5, rfl, hl5, hm5⟩ := later (w.heap.size) hb (by first | exact Nat.le_refl _ | go_size); clear hb; (try simp only [World.size_alloc, World.size_setCell, World.size_drew] at hm5))
        | (go_at_call 22; with_reducible refine (P6.out _).mono ?_; rintro e w' ⟨rfl, hb⟩; obtain ⟨X6, rfl, hl6, hm6⟩ := later (w.heap.size) hb (by first | exact Nat.le_refl _ | go_size); clear hb; (try simp only [World.size_alloc, World.size_setCell, World.size_drew] at hm6))
        | (go_at_call 12; with_reducible refine (Q5.out _).mono ?_; rintro e w' ⟨rfl, hb⟩; obtain ⟨X7, rfl, hl7, hm7⟩ := later (w.heap.size) hb (by first | exact Nat.le_refl _ | go_size); clear hb; (try simp only [World.size_alloc, World.size_setCell, World.size_drew] at hm7))
        | (go_at_call 23; with_reducible refine (Q6.out _).mono ?_; rintro e w' ⟨rfl, hb⟩; obtain ⟨X8, rfl, hl8, hm8⟩ := later (w.heap.size) hb (by first | exact Nat.le_refl _ | go_size); clear hb; (try simp only [World.size_alloc, World.size_setCell, World.size_drew] at hm8))
        | (go_at_call 14; refine (known_any _).mono ?_; rintro e w' ⟨rfl, hb⟩; obtain ⟨X9, rfl, hl9, hm9⟩ := later (w.heap.size) hb (by first | exact Nat.le_refl _ | go_size); clear hb; (try simp only [World.size_alloc, World.size_setCell, World.size_drew] at hm9)))
      go_ret
      exact ⟨rfl, by repeat' (first | (with_reducible exact Below.refl _ _) | (with_reducible assumption) | (with_reducible refine Later.step ?_ ?_ _) | (with_reducible refine Below.alloc ?_ ?_ _) | (with_reducible refine Below.drew ?_) | (with_reducible refine bel_drewN ?_ _) | (with_reducible refine bel_grown ?_ (by assumption) ?_ ?_) | (with_reducible refine Below.setCell ?_ ?_ _) | go_size)⟩
end Go.Proofs.Ytdhecljfjecefaa
