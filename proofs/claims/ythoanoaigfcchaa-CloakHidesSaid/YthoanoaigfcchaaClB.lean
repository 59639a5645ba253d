/- Points are added to counts, and counts asked, walked. No condition beyond what the memory holds. -/
import Derived.Test.YthoanoaigfcchaaClA
namespace Go.Proofs.Ythoanoaigfcchaa
open Go.RowKit Go.Maps
set_option linter.unusedSimpArgs false
set_option linter.unusedVariables false
set_option maxRecDepth 2000

theorem KeptM.cell {w w' : World} {b o : Nat} {v : Value} (h : KeptM w w') (hc : w.cell? ⟨b, o, none⟩ = some v) : w'.cell? ⟨b, o, none⟩ = some v := by
  have hlt := World.block_lt_of_cell? w _ hc
  rw [← hc]
  exact World.cell?_of_block (a := ⟨b, o, none⟩) (h.block b hlt (fun es cl e => by simp [World.cell?, e] at hc))
/-- A point's code of the level 16. -/
def ptC (x y : Int) : Nat := codeN 16 x.toNat y.toNat
theorem ptC_lt (x y : Int) : ptC x y < 4294967296 := code_lt (Nat.le_refl _)
theorem of16 (x y : Int) (h : fitsB x y = true) (w : World) : Calls Try.prog 29 #[.agg #[.int .i64 x, .int .i64 y], .int .i64 16] w fun e w' => e = .returned (.tuple #[.agg #[.int .i64 16, .int .i64 x, .int .i64 y], .bool true]) ∧ Below w.heap.size w w' := by
  have := cof_any x y 16 w
  rw [h, show lvlB 16 = true by decide, show sd 16 = 1 by decide] at this
  simp only [Bool.and_self, sel, if_true, Int.ediv_one] at this
  exact this
theorem of16_no (x y : Int) (h : fitsB x y = false) (w : World) : Calls Try.prog 29 #[.agg #[.int .i64 x, .int .i64 y], .int .i64 16] w fun e w' => e = .returned (.tuple #[.agg #[.int .i64 0, .int .i64 0, .int .i64 0], .bool false]) ∧ Below w.heap.size w w' := by
  have := cof_any x y 16 w
  rw [h, Bool.and_false] at this
  simpa only [sel, Bool.false_eq_true, if_false] using this
theorem cright16 {x y : Int} (h : fitsB x y = true) : crightB 16 x y = true := by
  rw [fits_iff] at h
  rw [cright_iff]
  have : pw 16 = 65536 := by decide
  omega
theorem code16 (x y : Int) (h : fitsB x y = true) (w : World) : Calls Try.prog 52 #[.agg #[.int .i64 16, .int .i64 x, .int .i64 y]] w fun e w' => e = .returned (.tuple #[.int .u64 (ptC x y : Nat), .bool true]) ∧ Below w.heap.size w w' := by
  have := code_any 16 x y w
  rw [cright16 h] at this
  exact this
set_option maxHeartbeats 4000000 in
theorem made_any (q n : Nat) (F : Nat → Nat → Int) (w : World) (h : Pyr w q n F) : Calls Try.prog 39 #[.pointer (some ⟨q, 0, none⟩)] w fun e w' => e = .returned (.bool true) ∧ Below w.heap.size w w' := by
  obtain ⟨lt, Bs, h1, h2, h3, h4⟩ := h
  have d0 := h1 0 (by decide)
  have qm : ∀ (w : World) (r : Option Nat), (binOp .neq 70 (.map r) (.map none)).run Try.prog w = .ok (.bool (!r.isNone)) w := fun w r => run_neq_map_nil w _ _ _ r Try.underlying70
  clear h1 h2 h3 h4
  go_enter Try.func39, Try.ntmps39
  go_wp2
  go_ret
  exact ⟨rfl, by repeat' (first | (with_reducible exact Below.refl _ _) | (with_reducible assumption) | (with_reducible refine Later.step ?_ ?_ _) | (with_reducible refine Below.alloc ?_ ?_ _) | (with_reducible refine Below.drew ?_) | (with_reducible refine Below.setCell ?_ ?_ _) | go_size)⟩
set_option maxHeartbeats 4000000 in
theorem addc_any (q bx n l c : Nat) (F : Nat → Nat → Int) (w : World) (h : Pyr w q n F) (hbx : w.cell? ⟨bx, 0, none⟩ = some (.pointer (some ⟨q, 0, none⟩))) (hl : l < 17) (hc : c < 18446744073709551616) (hn : n < 1000000) (hF : 0 ≤ F l c ∧ F l c ≤ 1000000) :
    Calls Try.prog 41 #[.int .i64 l, .int .u64 c, .pointer (some ⟨bx, 0, none⟩)] w fun e w' => e = .returned (.tuple #[]) ∧ Pyr w' q (n + 1) (upF F l c (F l c + 1)) ∧ KeptM w w' ∧ Below (q + 1) w w' := by
  have P1 := Lib.hid (turn_any q n l c F w h hl hc hn hF)
  clear h hF
  go_enter Try.func41, Try.ntmps41
  go_wp2_with fail
  refine P1.out.mono ?_
  rintro e w1 ⟨rfl, hP, hK, hB⟩
  have H := Lib.hid (show Pyr w1 q (n + 1) (upF F l c (F l c + 1)) ∧ KeptM w w1 ∧ Below (q + 1) w w1 from ⟨hP, hK, hB⟩)
  clear hP hK hB
  go_wp2
  go_end0
  exact ⟨rfl, H.out⟩
/-- The counts behind so many levels, from the lowest. -/
def stepF (F : Nat → Nat → Int) (C k : Nat) : Nat → Nat → Int := fun l c => F l c + if 16 < l + k ∧ l ≤ 16 ∧ c = C / 4 ^ (16 - l) then 1 else 0
theorem stepF_zero (F : Nat → Nat → Int) (C l c : Nat) : F l c = stepF F C 0 l c := by
  unfold stepF
  rw [if_neg (by omega)]
  omega
theorem stepF_up (F : Nat → Nat → Int) (C k : Nat) (hk : k < 17) (l c : Nat) : upF (stepF F C k) (16 - k) (C / 4 ^ k) (stepF F C k (16 - k) (C / 4 ^ k) + 1) l c = stepF F C (k + 1) l c := by
  unfold upF
  by_cases e : l = 16 - k ∧ c = C / 4 ^ k
  · obtain ⟨rfl, rfl⟩ := e
    rw [if_pos ⟨rfl, rfl⟩]
    unfold stepF
    rw [if_neg (by omega), if_pos ⟨by omega, by omega, by rw [show 16 - (16 - k) = k by omega]⟩]
    omega
  · rw [if_neg e]
    unfold stepF
    congr 1
    by_cases h : 16 < l + k ∧ l ≤ 16 ∧ c = C / 4 ^ (16 - l)
    · rw [if_pos h, if_pos ⟨by omega, h.2⟩]
    · rw [if_neg h, if_neg]
      rintro ⟨h1, h2, h3⟩
      by_cases h4 : 16 < l + k
      · exact h ⟨h4, h2, h3⟩
      · have hl : l = 16 - k := by omega
        refine e ⟨hl, ?_⟩
        rw [h3, hl, show 16 - (16 - k) = k by omega]
set_option maxHeartbeats 8000000 in
theorem each_yes (x y : Int) (q bx n : Nat) (F : Nat → Nat → Int) (w : World) (h : Pyr w q n F) (hbx : w.cell? ⟨bx, 0, none⟩ = some (.pointer (some ⟨q, 0, none⟩))) (hf : fitsB x y = true) (hn : n + 17 ≤ 1000000) (hF : ∀ l c, 0 ≤ F l c ∧ F l c ≤ 1000000) :
    Calls Try.prog 40 #[.agg #[.int .i64 x, .int .i64 y], .func (.func 41) #[] #[.pointer (some ⟨bx, 0, none⟩)]] w fun e w' => e = .returned (.bool true) ∧ Pyr w' q (n + 17) (stepF F (ptC x y) 17) ∧ KeptM w w' ∧ Below (q + 1) w w' := by
  have P1 := Lib.hid (of16 x y hf)
  have P2 := Lib.hid (code16 x y hf)
  have HP := Lib.hid h
  have HB := Lib.hid hbx
  have HF := Lib.hid hF
  have hC := ptC_lt x y
  have hq := h.lt
  have hbl := World.block_lt_of_cell? w _ hbx
  simp only at hbl
  generalize ptC x y = C at *
  clear h hbx hf hF
  go_enter Try.func40, Try.ntmps40
  go_wp2_with (first
    | (go_at_call 29; refine (P1.out _).mono ?_; rintro e w' ⟨rfl, hb⟩; obtain ⟨X1, rfl, hl1, hm1⟩ := later (w.heap.size + 1) hb (by first | exact Nat.le_refl _ | go_size); clear hb; (try simp only [World.size_alloc, World.size_setCell, World.size_drew] at hm1))
    | (go_at_call 52; refine (P2.out _).mono ?_; rintro e w' ⟨rfl, hb⟩; obtain ⟨X2, rfl, hl2, hm2⟩ := later (X1.w.heap.size) hb (by first | exact Nat.le_refl _ | go_size); clear hb; (try simp only [World.size_alloc, World.size_setCell, World.size_drew] at hm2)))
  have hpy : Pyr X2.w q n F := HP.out.keep (by repeat' (first | (with_reducible exact Below.refl _ _) | (with_reducible assumption) | (with_reducible refine Later.step ?_ ?_ _) | (with_reducible refine Below.alloc ?_ ?_ _) | (with_reducible refine Below.drew ?_) | (with_reducible refine Below.setCell ?_ ?_ _) | go_size))
  have hbx : X2.w.cell? ⟨bx, 0, none⟩ = some (.pointer (some ⟨q, 0, none⟩)) := by
    have := HB.out
    go_simp
  have HY := Lib.hid hpy
  have HX := Lib.hid hbx
  clear hpy hbx
  go_loopw [7, 9] (fun v i wr => ∃ k : Nat, k ≤ 17 ∧ v = .int .u64 ((C / 4 ^ k : Nat) : Int) ∧ i = .int .i64 (16 - (k : Int)) ∧ Hid (Pyr wr q (n + k) (stepF F C k)) ∧ Hid (KeptM X2.w wr) ∧ Hid (Below (q + 1) X2.w wr)) (fun _ i _ => (intOf i + 1).toNat)
  case atStart => exact ⟨0, by omega, by simp, rfl, HY.out.congr (stepF_zero F C), keptM_refl _, Below.refl _ _⟩
  case round =>
    obtain ⟨k, hk, rfl, rfl, hpy, hkm, hbl2⟩ := hrel
    by_cases hlt : k < 17
    · have hbx := hkm.out.cell HX.out
      have hdiv : C / 4 ^ k < 18446744073709551616 := Nat.lt_of_le_of_lt (Nat.div_le_self _ _) (by omega)
      have hst : stepF F C k (16 - k) (C / 4 ^ k) = F (16 - k) (C / 4 ^ k) := by
        unfold stepF
        rw [if_neg (by omega)]
        omega
      have PA := Lib.hid (addc_any q bx (n + k) (16 - k) (C / 4 ^ k) (stepF F C k) wr hpy.out hbx (by omega) hdiv (by omega) (by rw [hst]; exact HF.out _ _))
      have hcast : ((16 - k : Nat) : Int) = 16 - (k : Int) := by omega
      have hup := Lib.hid (stepF_up F C k hlt)
      have hq4 : C / 4 ^ (k + 1) = C / 4 ^ k / 4 := by rw [Nat.pow_succ, Nat.div_div_eq_div_mul]
      rw [hcast] at PA
      have HQ4 := Lib.hid hq4
      clear hst hbx hcast hq4
      obtain ⟨c4, hc4⟩ : ∃ c, C / 4 ^ k = c := ⟨_, rfl⟩
      rw [hc4] at PA hdiv hup HQ4 ⊢
      clear hc4
      go_wp2_with fail
      refine PA.out.mono ?_
      rintro e w5 ⟨rfl, hP5, hK5, hB5⟩
      have H5 := Lib.hid (show Pyr w5 q (n + k + 1) (stepF F C (k + 1)) ∧ KeptM X2.w w5 ∧ Below (q + 1) X2.w w5 from ⟨hP5.congr hup.out, hkm.out.trans hK5, hbl2.out.trans hB5⟩)
      clear hP5 hK5 hB5
      go_wp2
      go_roundw
      case rel =>
        refine ⟨k + 1, by omega, by rw [HQ4.out]; congr 1, by congr 1; omega, H5.out.1, H5.out.2.1, H5.out.2.2⟩
      case measure => simp [intOf]; omega
    · have hk17 := Lib.hid (show k = 17 by omega)
      go_wp2
      go_ret
      have h1 := hpy.out
      rw [hk17.out] at h1
      exact ⟨rfl, h1, (keptM_below (by repeat' (first | (with_reducible exact Below.refl _ _) | (with_reducible assumption) | (with_reducible refine Later.step ?_ ?_ _) | (with_reducible refine Below.alloc ?_ ?_ _) | (with_reducible refine Below.drew ?_) | (with_reducible refine Below.setCell ?_ ?_ _) | go_size))).trans hkm.out, Below.trans (b := X2.w) (by repeat' (first | (with_reducible exact Below.refl _ _) | (with_reducible assumption) | (with_reducible refine Later.step ?_ ?_ _) | (with_reducible refine Below.alloc ?_ ?_ _) | (with_reducible refine Below.drew ?_) | (with_reducible refine Below.setCell ?_ ?_ _) | go_size)) hbl2.out⟩
set_option maxHeartbeats 4000000 in
theorem each_no (x y : Int) (T : Value) (w : World) (hf : fitsB x y = false) :
    Calls Try.prog 40 #[.agg #[.int .i64 x, .int .i64 y], T] w fun e w' => e = .returned (.bool false) ∧ Below w.heap.size w w' := by
  have P1 := Lib.hid (of16_no x y hf)
  clear hf
  go_enter Try.func40, Try.ntmps40
  go_wp2_with (first
    | (go_at_call 29; refine (P1.out _).mono ?_; rintro e w' ⟨rfl, hb⟩; obtain ⟨X1, rfl, hl1, hm1⟩ := later (w.heap.size + 1) hb (by first | exact Nat.le_refl _ | go_size); clear hb; (try simp only [World.size_alloc, World.size_setCell, World.size_drew] at hm1)))
  go_ret
  exact ⟨rfl, by repeat' (first | (with_reducible exact Below.refl _ _) | (with_reducible assumption) | (with_reducible refine Later.step ?_ ?_ _) | (with_reducible refine Below.alloc ?_ ?_ _) | (with_reducible refine Below.drew ?_) | (with_reducible refine Below.setCell ?_ ?_ _) | go_size)⟩
set_option maxHeartbeats 4000000 in
theorem add_yes (x y : Int) (q n : Nat) (F : Nat → Nat → Int) (w : World) (h : Pyr w q n F) (hf : fitsB x y = true) (hn : n + 17 ≤ 1000000) (hF : ∀ l c, 0 ≤ F l c ∧ F l c ≤ 1000000) :
    Calls Try.prog 26 #[.pointer (some ⟨q, 0, none⟩), .agg #[.int .i64 x, .int .i64 y]] w fun e w' => e = .returned (.bool true) ∧ Pyr w' q (n + 17) (stepF F (ptC x y) 17) ∧ KeptM w w' ∧ Below (q + 1) w w' := by
  have hmf : ∀ (fn : Fn) (first cap : Array Value) (w : World), (Instr.makeFunc fn first cap).run Try.prog w = .ok (.func fn first cap) w := fun _ _ _ _ => rfl
  have P1 := Lib.hid (fun (Y : World) (hY : Pyr Y q n F) => made_any q n F Y hY)
  have P2 := Lib.hid (fun (Y : World) (bx : Nat) (hY : Pyr Y q n F) (hb : Y.cell? ⟨bx, 0, none⟩ = some (.pointer (some ⟨q, 0, none⟩))) => each_yes x y q bx n F Y hY hb hf hn hF)
  have hq := h.lt
  have HP := Lib.hid h
  clear h hf hF
  go_enter Try.func26, Try.ntmps26
  go_wp2_with (first
    | (go_at_call 39; refine (P1.out _ (HP.out.keep (by repeat' (first | (with_reducible exact Below.refl _ _) | (with_reducible assumption) | (with_reducible refine Later.step ?_ ?_ _) | (with_reducible refine Below.alloc ?_ ?_ _) | (with_reducible refine Below.drew ?_) | (with_reducible refine Below.setCell ?_ ?_ _) | go_size)))).mono ?_; rintro e w' ⟨rfl, hb⟩; obtain ⟨X1, rfl, hl1, hm1⟩ := later (w.heap.size + 2) hb (by first | exact Nat.le_refl _ | go_size); clear hb; (try simp only [World.size_alloc, World.size_setCell, World.size_drew] at hm1)))
  refine (P2.out _ w.heap.size (HP.out.keep (by repeat' (first | (with_reducible exact Below.refl _ _) | (with_reducible assumption) | (with_reducible refine Later.step ?_ ?_ _) | (with_reducible refine Below.alloc ?_ ?_ _) | (with_reducible refine Below.drew ?_) | (with_reducible refine Below.setCell ?_ ?_ _) | go_size))) (by go_simp)).mono ?_
  rintro e w2 ⟨rfl, hP, hK, hB⟩
  have H := Lib.hid (show Pyr w2 q (n + 17) (stepF F (ptC x y) 17) ∧ KeptM w w2 ∧ Below (q + 1) w w2 from ⟨hP, (keptM_below (by repeat' (first | (with_reducible exact Below.refl _ _) | (with_reducible assumption) | (with_reducible refine Later.step ?_ ?_ _) | (with_reducible refine Below.alloc ?_ ?_ _) | (with_reducible refine Below.drew ?_) | (with_reducible refine Below.setCell ?_ ?_ _) | go_size))).trans hK, Below.trans (b := X1.w) (by repeat' (first | (with_reducible exact Below.refl _ _) | (with_reducible assumption) | (with_reducible refine Later.step ?_ ?_ _) | (with_reducible refine Below.alloc ?_ ?_ _) | (with_reducible refine Below.drew ?_) | (with_reducible refine Below.setCell ?_ ?_ _) | go_size)) hB⟩)
  clear hP hK hB
  go_wp2
  go_ret
  exact ⟨rfl, H.out⟩
set_option maxHeartbeats 4000000 in
theorem add_no (x y : Int) (q n : Nat) (F : Nat → Nat → Int) (w : World) (h : Pyr w q n F) (hf : fitsB x y = false) :
    Calls Try.prog 26 #[.pointer (some ⟨q, 0, none⟩), .agg #[.int .i64 x, .int .i64 y]] w fun e w' => e = .returned (.bool false) ∧ Below w.heap.size w w' := by
  have hmf : ∀ (fn : Fn) (first cap : Array Value) (w : World), (Instr.makeFunc fn first cap).run Try.prog w = .ok (.func fn first cap) w := fun _ _ _ _ => rfl
  have P1 := Lib.hid (fun (Y : World) (hY : Pyr Y q n F) => made_any q n F Y hY)
  have P2 := Lib.hid (fun (T : Value) (Y : World) => each_no x y T Y hf)
  have HP := Lib.hid h
  clear h hf
  go_enter Try.func26, Try.ntmps26
  go_wp2_with (first
    | (go_at_call 39; refine (P1.out _ (HP.out.keep (by repeat' (first | (with_reducible exact Below.refl _ _) | (with_reducible assumption) | (with_reducible refine Later.step ?_ ?_ _) | (with_reducible refine Below.alloc ?_ ?_ _) | (with_reducible refine Below.drew ?_) | (with_reducible refine Below.setCell ?_ ?_ _) | go_size)))).mono ?_; rintro e w' ⟨rfl, hb⟩; obtain ⟨X1, rfl, hl1, hm1⟩ := later (w.heap.size + 2) hb (by first | exact Nat.le_refl _ | go_size); clear hb; (try simp only [World.size_alloc, World.size_setCell, World.size_drew] at hm1))
    | (go_at_call 40; refine (P2.out _ _).mono ?_; rintro e w' ⟨rfl, hb⟩; obtain ⟨X2, rfl, hl2, hm2⟩ := later (X1.w.heap.size) hb (by first | exact Nat.le_refl _ | go_size); clear hb; (try simp only [World.size_alloc, World.size_setCell, World.size_drew] at hm2)))
  go_ret
  exact ⟨rfl, by repeat' (first | (with_reducible exact Below.refl _ _) | (with_reducible assumption) | (with_reducible refine Later.step ?_ ?_ _) | (with_reducible refine Below.alloc ?_ ?_ _) | (with_reducible refine Below.drew ?_) | (with_reducible refine Below.setCell ?_ ?_ _) | go_size)⟩
/-- A cell's count. -/
def cntF (F : Nat → Nat → Int) (l x y : Int) : Int := if crightB l x y = true then F l.toNat (codeN l.toNat x.toNat y.toNat) else 0
set_option maxHeartbeats 4000000 in
theorem count_any (l x y : Int) (q n : Nat) (F : Nat → Nat → Int) (w : World) (h : Pyr w q n F) :
    Calls Try.prog 31 #[.pointer (some ⟨q, 0, none⟩), .agg #[.int .i64 l, .int .i64 x, .int .i64 y]] w fun e w' => e = .returned (.int .i64 (cntF F l x y)) ∧ Below w.heap.size w w' := by
  have P1 := Lib.hid (fun (Y : World) (hY : Pyr Y q n F) => made_any q n F Y hY)
  have p2 := code_any l x y
  have HP := Lib.hid h
  unfold cntF
  cases hc : crightB l x y with
  | false =>
    rw [hc] at p2
    have P2 := Lib.hid p2
    clear p2 h hc
    go_enter Try.func31, Try.ntmps31
    go_wp2_with (first
      | (go_at_call 52; refine (P2.out _).mono ?_; rintro e w' ⟨rfl, hb⟩; obtain ⟨X1, rfl, hl1, hm1⟩ := later (w.heap.size + 1) hb (by first | exact Nat.le_refl _ | go_size); clear hb; (try simp only [World.size_alloc, World.size_setCell, World.size_drew] at hm1)))
    go_ret
    exact ⟨rfl, by repeat' (first | (with_reducible exact Below.refl _ _) | (with_reducible assumption) | (with_reducible refine Later.step ?_ ?_ _) | (with_reducible refine Below.alloc ?_ ?_ _) | (with_reducible refine Below.drew ?_) | (with_reducible refine Below.setCell ?_ ?_ _) | go_size)⟩
  | true =>
    have g := cright_iff.1 hc
    rw [hc] at p2
    unfold codeI at p2
    simp only [sel, if_true] at p2
    obtain ⟨k, rfl⟩ := Int.eq_ofNat_of_zero_le g.1
    rw [Int.toNat_natCast] at p2 ⊢
    have hk : k < 17 := by omega
    have hcl : codeN k x.toNat y.toNat < 18446744073709551616 := Nat.lt_trans (code_lt (by omega)) (by decide)
    generalize codeN k x.toNat y.toNat = c at *
    have P2 := Lib.hid p2
    have hq := h.lt
    clear p2 hc g h
    have hk0 : (0 : Int) ≤ (k : Int) := Int.natCast_nonneg _
    have hk1 : (k : Int) < 17 := by omega
    go_enter Try.func31, Try.ntmps31
    go_wp2_with (first
      | (go_at_call 52; refine (P2.out _).mono ?_; rintro e w' ⟨rfl, hb⟩; obtain ⟨X1, rfl, hl1, hm1⟩ := later (w.heap.size + 1) hb (by first | exact Nat.le_refl _ | go_size); clear hb; (try simp only [World.size_alloc, World.size_setCell, World.size_drew] at hm1))
      | (go_at_call 39; refine (P1.out _ (HP.out.keep (by repeat' (first | (with_reducible exact Below.refl _ _) | (with_reducible assumption) | (with_reducible refine Later.step ?_ ?_ _) | (with_reducible refine Below.alloc ?_ ?_ _) | (with_reducible refine Below.drew ?_) | (with_reducible refine Below.setCell ?_ ?_ _) | go_size)))).mono ?_; rintro e w' ⟨rfl, hb⟩; obtain ⟨X2, rfl, hl2, hm2⟩ := later (X1.w.heap.size) hb (by first | exact Nat.le_refl _ | go_size); clear hb; (try simp only [World.size_alloc, World.size_setCell, World.size_drew] at hm2)))
    obtain ⟨lt, Bs, h1, h2, h3, h4⟩ := HP.out.keep (show Below w.heap.size w X2.w by repeat' (first | (with_reducible exact Below.refl _ _) | (with_reducible assumption) | (with_reducible refine Later.step ?_ ?_ _) | (with_reducible refine Below.alloc ?_ ?_ _) | (with_reducible refine Below.drew ?_) | (with_reducible refine Below.setCell ?_ ?_ _) | go_size))
    have d1 := h1 k hk
    have hrun : ∀ d : Nat, (Instr.lookup 70 (.map (some (Bs k))) (.int .u64 (c : Int)) false).run Try.prog (X2.w.drewN d) = .ok (.int .i64 (F k c)) (X2.w.drewN d) := fun d => ((h4 k hk).same (w' := X2.w.drewN d) rfl).look hcl
    clear h1 h2 h3 h4
    generalize Bs k = B at *
    obtain ⟨v, hv⟩ : ∃ v, F k c = v := ⟨_, rfl⟩
    rw [hv] at hrun
    have HV := Lib.hid hv
    clear hv
    go_quiet (fail)
    go_wp2
    go_ret
    exact ⟨by rw [HV.out]; rfl, by repeat' (first | (with_reducible exact Below.refl _ _) | (with_reducible assumption) | (with_reducible refine Later.step ?_ ?_ _) | (with_reducible refine Below.alloc ?_ ?_ _) | (with_reducible refine Below.drew ?_) | (with_reducible refine bel_drewN ?_ _) | (with_reducible refine bel_grown ?_ (by assumption) ?_ ?_) | (with_reducible refine Below.setCell ?_ ?_ _) | go_size)⟩
end Go.Proofs.Ythoanoaigfcchaa
